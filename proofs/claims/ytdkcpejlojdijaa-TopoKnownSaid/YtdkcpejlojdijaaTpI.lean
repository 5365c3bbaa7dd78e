/-
  The statement TopoLess: the walk.
-/
import Derived.Test.YtdkcpejlojdijaaTpJ
import Derived.Test.YtdkcpejlojdijaaUntil
namespace Go.Proofs.Ytdkcpejlojdijaa
open Go.RowKit

theorem pick_any (i n : Int) (w : World) : Calls Try.prog 21 #[.int .i64 i, .int .i64 n] w fun e w' => ∃ z : Int, e = .returned (.int .i64 z) ∧ w = w' := by
  by_cases h : n ≤ 0
  · go_enter Try.func21, Try.ntmps21
    go_wp2_with fail
    go_ret
    first | exact ⟨_, rfl, rfl⟩ | exact ⟨_, rfl⟩ | simp
  · have h0 : ¬ n = 0 := by omega
    go_enter Try.func21, Try.ntmps21
    go_wp2_with fail
    go_ret
    first | exact ⟨_, rfl, rfl⟩ | exact ⟨_, rfl⟩ | simp
theorem route_at (L : Lay) (k : Nat) (y : Rt) (w : World) (hL : LayAt w L) (hm : mayS L = true) (hy : L.rt.l[k]? = some y) (b : Bool) (hb : formedS L y = b) :
    Calls Try.prog 18 #[.agg #[L.se.v, L.po.v, L.sg.v, L.rt.v], .int .i64 (k : Int)] w fun e w' => e = .returned (.int .i64 (if b then 0 else 50)) ∧ Below w.heap.size w w' := by
  have h := route_is L (k : Int) w hL
  rw [rs_at hm hy, hb] at h
  exact h
attribute [local irreducible] Sl.v checkS routeS weightS formedS mayS

set_option maxRecDepth 100000 in
set_option maxHeartbeats 8000000 in
theorem topoLess_is (L : Lay) (n : Int) (w : World) (hL : LayAt w L) : Calls Try.prog 6 #[.agg #[L.se.v, L.po.v, L.sg.v, L.rt.v], .int .i64 n] w fun e w' => e = .returned (.bool true) ∧ Below w.heap.size w w' := by
  have HA := Lib.hid hL
  obtain ⟨n1, hn1⟩ : ∃ n, L.se.l.length = n := ⟨_, rfl⟩
  obtain ⟨n2, hn2⟩ : ∃ n, L.po.l.length = n := ⟨_, rfl⟩
  obtain ⟨n3, hn3⟩ : ∃ n, L.sg.l.length = n := ⟨_, rfl⟩
  obtain ⟨n4, hn4⟩ : ∃ n, L.rt.l.length = n := ⟨_, rfl⟩
  have HN := Lib.hid (And.intro hn1 (And.intro hn2 (And.intro hn3 hn4)))
  have HV := Lib.hid (And.intro (slv hn1) (And.intro (slv hn2) (And.intro (slv hn3) (slv hn4))))
  have HM4 : Hid (n4 ≤ 9223372036854775807) := Lib.hid (by rw [← hn4]; exact hL.rt.lenM)
  obtain ⟨z, hz⟩ : ∃ z, weightS 1500 L = z := ⟨_, rfl⟩
  have K1 : Hid (∀ W, Below w.heap.size w W → Calls Try.prog 15 #[.agg #[L.se.v, L.po.v, L.sg.v, L.rt.v], .int .i64 1500] W fun e w' => e = .returned (.int .i64 z) ∧ Below W.heap.size W w') := Lib.hid (fun W hW => hz ▸ weight_is 1500 L W (hL.below hW))
  obtain ⟨⟨c, d⟩, hcd⟩ : ∃ p, checkS L = p := ⟨_, rfl⟩
  have K2 : Hid (∀ W, Below w.heap.size w W → Calls Try.prog 16 #[.agg #[L.se.v, L.po.v, L.sg.v, L.rt.v]] W fun e w' => e = .returned (.tuple #[.int .i64 c, .int .i64 d]) ∧ Below W.heap.size W w') := Lib.hid (fun W hW => by
    have h := check_is L W (hL.below hW)
    rw [hcd] at h
    exact h)
  have K3 : Hid (mayS L = true → ∀ W, Below w.heap.size w W → ∀ (k : Nat) (y : Rt) (b : Bool), L.rt.l[k]? = some y → formedS L y = b → Calls Try.prog 18 #[.agg #[L.se.v, L.po.v, L.sg.v, L.rt.v], .int .i64 (k : Int)] W fun e w' => e = .returned (.int .i64 (if b then 0 else 50)) ∧ Below W.heap.size W w') := Lib.hid (fun hm W hW k y b hy hb => route_at L k y W (hL.below hW) hm hy b hb)
  have K4 : Hid (mayS L = true → ∀ W, Below w.heap.size w W → Calls Try.prog 20 #[.agg #[L.se.v, L.po.v, L.sg.v, L.rt.v]] W fun e w' => ∃ M, e = .returned (.agg #[.slice M.se.a n1 M.se.c, .slice M.po.a n2 M.po.c, .slice M.sg.a n3 M.sg.c, .slice M.rt.a n4 M.rt.c]) ∧ LayX (fun b => b < W.heap.size) w' M ∧ SameLay L M ∧ Below W.heap.size W w') := Lib.hid (fun hm W hW => by
    have hs := may_sizes hm
    have hcp := copy_is L W (hL.below hW) (by omega) (by omega) (by omega) (by omega) (fun r hr => by
      have ho := mayS_rt hm r hr
      have := ho.pa; have := ho.po; have := ho.ov; have := ho.fl
      omega)
    refine hcp.mono ?_
    rintro e w9 ⟨M, g1, g2, g3, g4⟩
    exact ⟨M, by rw [g1, slv (g3.se ▸ hn1), slv (g3.po ▸ hn2), slv (g3.sg ▸ hn3), slv (n := n4) (by have := congrArg List.length g3.rt; rw [List.length_map, List.length_map] at this; rw [this, hn4])], g2, g3, g4⟩)
  rw [slv hn1, slv hn2, slv hn3, slv hn4] at K1 K2 K3 K4
  rw [slv hn1, slv hn2, slv hn3, slv hn4]
  have hcs := check_cases L
  rw [hcd] at hcs
  have HCD := Lib.hid hcd
  obtain ⟨gl, hgl⟩ : ∃ g, g = w.heap.size := ⟨_, rfl⟩
  have HGL := Lib.hid hgl
  clear hn1 hn2 hn3 hn4 hL hz hcd hgl
  go_enter Try.func6, Try.ntmps6
  go_wp2_with fail
  refine (K1.out _ (below1 w _)).mono ?_
  rintro e w1 ⟨rfl, hb1⟩
  have hq := blk_keep hb1 (alloc1 w (.cells #[.slice L.se.a n1 L.se.c, .slice L.po.a n2 L.po.c, .slice L.sg.a n3 L.sg.c, .slice L.rt.a n4 L.rt.c] 39) (Below.refl _ _))
  have hbw := below_on (below1 w _) hb1
  rw [← HGL.out] at hq ⊢
  have HB := Lib.hid hbw
  have HQ := Lib.hid hq
  clear hb1 hbw hq
  by_cases hz : 1500 < z
  · go_wp2_with fail
    refine (works_is _).mono ?_
    rintro e w9 ⟨rfl, hb⟩
    have HB9 := Lib.hid (below_on HB.out hb)
    clear hb
    go_wp2_with fail
    go_ret
    exact ⟨rfl, HB9.out⟩
  obtain ⟨l0, l1, l2, l3⟩ : w1.cell? ⟨gl, 0, none⟩ = some (.slice L.se.a n1 L.se.c) ∧ w1.cell? ⟨gl, 1, none⟩ = some (.slice L.po.a n2 L.po.c) ∧ w1.cell? ⟨gl, 2, none⟩ = some (.slice L.sg.a n3 L.sg.c) ∧ w1.cell? ⟨gl, 3, none⟩ = some (.slice L.rt.a n4 L.rt.c) := by
    have q := HQ.out
    exact ⟨blk_cell q 0 _ rfl, blk_cell q 1 _ rfl, blk_cell q 2 _ rfl, blk_cell q 3 _ rfl⟩
  go_wp2_with fail
  clear l0 l1 l2 l3
  refine (K2.out _ HB.out).mono ?_
  rintro e w2 ⟨rfl, hb⟩
  have hq := blk_keep hb HQ.out
  have hbw := below_on HB.out hb
  clear HQ HB hb
  have HQ := Lib.hid hq
  have HB := Lib.hid hbw
  clear hq hbw
  rcases hcs with ⟨hm, hc⟩ | ⟨hm, hf, hc⟩ | ⟨hm, hf, d', hc⟩
  · injection hc with hc1 hc2
    subst hc1
    subst hc2
    obtain ⟨l0, l1, l2, l3⟩ : w2.cell? ⟨gl, 0, none⟩ = some (.slice L.se.a n1 L.se.c) ∧ w2.cell? ⟨gl, 1, none⟩ = some (.slice L.po.a n2 L.po.c) ∧ w2.cell? ⟨gl, 2, none⟩ = some (.slice L.sg.a n3 L.sg.c) ∧ w2.cell? ⟨gl, 3, none⟩ = some (.slice L.rt.a n4 L.rt.c) := by
      have q := HQ.out
      exact ⟨blk_cell q 0 _ rfl, blk_cell q 1 _ rfl, blk_cell q 2 _ rfl, blk_cell q 3 _ rfl⟩
    go_wp2_with fail
    clear l0 l1 l2 l3
    go_loopg [7, 8] 0 (fun g a i wr => g = 0 ∧ i = .int .i64 0 ∧ a = .bool false ∧ wr.heap[gl]? = some (.cells #[.slice L.se.a n1 L.se.c, .slice L.po.a n2 L.po.c, .slice L.sg.a n3 L.sg.c, .slice L.rt.a n4 L.rt.c] 39) ∧ Below w.heap.size w wr)
    case atStart => exact ⟨rfl, rfl, rfl, HQ.out, HB.out⟩
    case round =>
      obtain ⟨rfl, rfl, rfl, hq, hb⟩ := hrel
      clear HQ HB
      have HB := Lib.hid hb
      have l3 := blk_cell hq 3 _ rfl
      clear hq hb
      by_cases h0 : (0 : Int) < (n4 : Int)
      · go_wp2_with fail
        refine (works_is _).mono ?_
        rintro e w9 ⟨rfl, hb⟩
        have HB9 := Lib.hid (below_on HB.out hb)
        clear hb
        go_wp2_with fail
        go_ret
        exact ⟨rfl, HB9.out⟩
      · go_wp2_with fail
        refine (works_is _).mono ?_
        rintro e w9 ⟨rfl, hb⟩
        have HB9 := Lib.hid (below_on HB.out hb)
        clear hb
        go_wp2_with fail
        go_ret
        exact ⟨rfl, HB9.out⟩
  · injection hc with hc1 hc2
    subst hc1
    subst hc2
    have HM := Lib.hid hm
    have HF := Lib.hid hf
    clear hm hf
    obtain ⟨l0, l1, l2, l3⟩ : w2.cell? ⟨gl, 0, none⟩ = some (.slice L.se.a n1 L.se.c) ∧ w2.cell? ⟨gl, 1, none⟩ = some (.slice L.po.a n2 L.po.c) ∧ w2.cell? ⟨gl, 2, none⟩ = some (.slice L.sg.a n3 L.sg.c) ∧ w2.cell? ⟨gl, 3, none⟩ = some (.slice L.rt.a n4 L.rt.c) := by
      have q := HQ.out
      exact ⟨blk_cell q 0 _ rfl, blk_cell q 1 _ rfl, blk_cell q 2 _ rfl, blk_cell q 3 _ rfl⟩
    go_wp2_with fail
    clear l0 l1 l2 l3
    go_loopg [7, 8] n4 (fun g a i wr => ∃ k : Nat, k + g = n4 ∧ i = .int .i64 (k : Int) ∧ a = .bool true ∧ wr.heap[gl]? = some (.cells #[.slice L.se.a n1 L.se.c, .slice L.po.a n2 L.po.c, .slice L.sg.a n3 L.sg.c, .slice L.rt.a n4 L.rt.c] 39) ∧ Below w.heap.size w wr)
    case atStart => exact ⟨0, by omega, rfl, rfl, HQ.out, HB.out⟩
    case round =>
      obtain ⟨k, hk, rfl, rfl, hq, hb⟩ := hrel
      clear HQ HB
      have HB := Lib.hid hb
      have HQ := Lib.hid hq
      clear hq hb
      obtain ⟨l0, l1, l2, l3⟩ : wr.cell? ⟨gl, 0, none⟩ = some (.slice L.se.a n1 L.se.c) ∧ wr.cell? ⟨gl, 1, none⟩ = some (.slice L.po.a n2 L.po.c) ∧ wr.cell? ⟨gl, 2, none⟩ = some (.slice L.sg.a n3 L.sg.c) ∧ wr.cell? ⟨gl, 3, none⟩ = some (.slice L.rt.a n4 L.rt.c) := by
        have q := HQ.out
        exact ⟨blk_cell q 0 _ rfl, blk_cell q 1 _ rfl, blk_cell q 2 _ rfl, blk_cell q 3 _ rfl⟩
      by_cases hlt : k < n4
      · obtain ⟨y, hy⟩ : ∃ y, L.rt.l[k]? = some y := ⟨_, List.getElem?_eq_getElem (by rw [HN.out.2.2.2]; exact hlt)⟩
        have HY := Lib.hid hy
        have hmem := List.mem_of_getElem? hy
        have d1 : (0 : Int) ≤ k := by omega
        have d2 : (k : Int) < n4 := by omega
        have e0 : wrap64 ((k : Int) + 1) = (k : Int) + 1 := by have := HM4.out; unfold wrap64; omega
        have HC := Lib.hid (K3.out HM.out wr HB.out k y true hy (HF.out y hmem))
        have HK := Lib.hid hk
        have HLT := Lib.hid hlt
        clear hy hmem hk hlt
        go_wp2_with fail
        clear l0 l1 l2 l3
        refine HC.out.mono ?_
        rintro e w4 ⟨rfl, hb⟩
        have hq := blk_keep hb HQ.out
        have hbw := below_on HB.out hb
        clear HQ HB hb
        have HQ := Lib.hid hq
        have HB := Lib.hid hbw
        clear hq hbw
        go_wp2_with fail
        go_roundg (n4 - (k + 1))
        case rel => exact ⟨k + 1, by have := HK.out; have := HLT.out; omega, by go_num, rfl, HQ.out, HB.out⟩
        case measure => have := HK.out; have := HLT.out; omega
      · have d2 : ¬ (k : Int) < n4 := by omega
        clear hk hlt
        go_upto_region 13 with fail
        clear d2
        clear l0 l1 l2 l3
        have HSI : Hid (St w wr gl #[.slice L.se.a n1 L.se.c, .slice L.po.a n2 L.po.c, .slice L.sg.a n3 L.sg.c, .slice L.rt.a n4 L.rt.c] L none none none none) := Lib.hid ⟨HQ.out, HB.out, (fun g h => by cases h), (fun g h => by cases h), (fun g h => by cases h), (fun g h => by cases h), (fun g h => by cases h)⟩
        have HSC : Hid (∀ V g9 g10 M1 M2, St w V gl #[.slice L.se.a n1 L.se.c, .slice L.po.a n2 L.po.c, .slice L.sg.a n3 L.sg.c, .slice L.rt.a n4 L.rt.c] L g9 g10 M1 M2 → V.cell? ⟨gl, 0, none⟩ = some (.slice L.se.a n1 L.se.c) ∧ V.cell? ⟨gl, 1, none⟩ = some (.slice L.po.a n2 L.po.c) ∧ V.cell? ⟨gl, 2, none⟩ = some (.slice L.sg.a n3 L.sg.c) ∧ V.cell? ⟨gl, 3, none⟩ = some (.slice L.rt.a n4 L.rt.c)) := Lib.hid (fun V g9 g10 M1 M2 h => ⟨blk_cell h.lay 0 _ rfl, blk_cell h.lay 1 _ rfl, blk_cell h.lay 2 _ rfl, blk_cell h.lay 3 _ rfl⟩)
        go_cut [9, 10, 52, 53, 54, 55] (fun s9 s10 _s52 _s53 _s54 _s55 wx => ∃ (g9 g10 : Nat) (M1 M2 : Lay), s9 = .pointer (some ⟨g9, 0, none⟩) ∧ s10 = .pointer (some ⟨g10, 0, none⟩) ∧ TlB w wx gl g9 g10 #[.slice L.se.a n1 L.se.c, .slice L.po.a n2 L.po.c, .slice L.sg.a n3 L.sg.c, .slice L.rt.a n4 L.rt.c] #[.slice M1.se.a n1 M1.se.c, .slice M1.po.a n2 M1.po.c, .slice M1.sg.a n3 M1.sg.c, .slice M1.rt.a n4 M1.rt.c] #[.slice M2.se.a n1 M2.se.c, .slice M2.po.a n2 M2.po.c, .slice M2.sg.a n3 M2.sg.c, .slice M2.rt.a n4 M2.rt.c] L M1 M2)
        case first =>
          refine wp_region_held_drew (S := (fun w' => w'.cell? ⟨gl, 0, none⟩ = some (.slice L.se.a n1 L.se.c) ∧ w'.cell? ⟨gl, 1, none⟩ = some (.slice L.po.a n2 L.po.c) ∧ w'.cell? ⟨gl, 2, none⟩ = some (.slice L.sg.a n3 L.sg.c) ∧ w'.cell? ⟨gl, 3, none⟩ = some (.slice L.rt.a n4 L.rt.c))) (by kernel_rfl) (HSC.out _ _ _ _ _ HSI.out.drew) (fun hH => ?_)
          refine wpAnyH_take (i := 0) (oi := ⟨some 52, _, _, _, _, _⟩) (v := .agg #[.slice L.se.a n1 L.se.c, .slice L.po.a n2 L.po.c, .slice L.sg.a n3 L.sg.c, .slice L.rt.a n4 L.rt.c]) rfl (by kernel_rfl) (by kernel_rfl) (by kernel_rfl) (fun _ _ _ h => h) (Or.inl ⟨by kernel_rfl, fun w hS => by obtain ⟨u0, u1, u2, u3⟩ := hS; go_simp⟩) hH ?_
          try simp only [Act.put, List.setIfInBounds_toArray, List.set_cons_zero, List.set_cons_succ]
          refine wpAnyH_re 7 #[true, false, false, false, false, false, false, false] (by kernel_rfl) (by kernel_rfl) ?_
          refine wpAnyH_take (i := 2) (oi := ⟨some 54, _, _, _, _, _⟩) (v := .agg #[.slice L.se.a n1 L.se.c, .slice L.po.a n2 L.po.c, .slice L.sg.a n3 L.sg.c, .slice L.rt.a n4 L.rt.c]) rfl (by kernel_rfl) (by kernel_rfl) (by kernel_rfl) (fun _ _ _ h => h) (Or.inl ⟨by kernel_rfl, fun w hS => by obtain ⟨u0, u1, u2, u3⟩ := hS; go_simp⟩) hH ?_
          try simp only [Act.put, List.setIfInBounds_toArray, List.set_cons_zero, List.set_cons_succ]
          have HS0 := Lib.hid HSI.out.drew
          refine wpAnyH_re 6 #[true, false, true, false, false, false, false, false] (by kernel_rfl) (by kernel_rfl) ?_
          refine wpAnyH_ready (rs := [1, 4, 5]) (by kernel_rfl) (by simp) (AllReadyH.cons (o := ⟨some 53, _, _, _, _, _⟩) rfl (fun K hK => ?_) (AllReadyH.cons (o := ⟨some 9, _, _, _, _, _⟩) rfl (fun K hK => ?_) (AllReadyH.cons (o := ⟨some 10, _, _, _, _, _⟩) rfl (fun K hK => ?_) AllReadyH.nil)))
          · go_simp
            refine (K4.out HM.out _ HS0.out.below).mono ?_
            rintro e V1 ⟨M1, rfl, hx, hs, hb⟩
            have HS1 := Lib.hid (HS0.out.call1 hx hs hb)
            refine hK.out _ _ (HSC.out _ _ _ _ _ HS1.out) (fun hH => ?_)
            clear hK K hx hs hb
            refine wpAnyH_re 5 #[true, true, true, false, false, false, false, false] (by kernel_rfl) (by kernel_rfl) ?_
            refine wpAnyH_ready (rs := [3, 4, 5]) (by kernel_rfl) (by simp) (AllReadyH.cons (o := ⟨some 55, _, _, _, _, _⟩) rfl (fun K hK => ?_) (AllReadyH.cons (o := ⟨some 9, _, _, _, _, _⟩) rfl (fun K hK => ?_) (AllReadyH.cons (o := ⟨some 10, _, _, _, _, _⟩) rfl (fun K hK => ?_) AllReadyH.nil)))
            · go_simp
              refine (K4.out HM.out _ HS1.out.below).mono ?_
              rintro e V2 ⟨M2, rfl, hx, hs, hb⟩
              have HS2 := Lib.hid (HS1.out.call2 hx hs hb)
              refine hK.out _ _ (HSC.out _ _ _ _ _ HS2.out) (fun hH => ?_)
              clear hK K hx hs hb
              refine wpAnyH_re 4 #[true, true, true, true, false, false, false, false] (by kernel_rfl) (by kernel_rfl) ?_
              refine wpAnyH_ready (rs := [4, 5]) (by kernel_rfl) (by simp) (AllReadyH.cons (o := ⟨some 9, _, _, _, _, _⟩) rfl (fun K hK => ?_) (AllReadyH.cons (o := ⟨some 10, _, _, _, _, _⟩) rfl (fun K hK => ?_) AllReadyH.nil))
              · go_simp
                refine name_K ?_
                intro V3 hV
                have hS : St w V3 gl #[.slice L.se.a n1 L.se.c, .slice L.po.a n2 L.po.c, .slice L.sg.a n3 L.sg.c, .slice L.rt.a n4 L.rt.c] L (some V2.heap.size) none (some M1) (some M2) := by rw [hV]; first | exact HS2.out.alloc9 | exact HSI.out.alloc9.drew
                obtain ⟨g9, hg⟩ : ∃ g, g = V2.heap.size := ⟨_, rfl⟩
                rw [← hg] at hS ⊢
                clear hg hV
                have HS3 := Lib.hid hS
                clear hS
                refine hK.out _ _ (HSC.out _ _ _ _ _ HS3.out) (fun hH => ?_)
                clear hK K
                refine wpAnyH_re 3 #[true, true, true, true, true, false, false, false] (by kernel_rfl) (by kernel_rfl) ?_
                refine wpAnyH_ready (rs := [5]) (by kernel_rfl) (by simp) (AllReadyH.cons (o := ⟨some 10, _, _, _, _, _⟩) rfl (fun K hK => ?_) AllReadyH.nil)
                go_simp
                refine name_K ?_
                intro V4 hV
                have hS : St w V4 gl #[.slice L.se.a n1 L.se.c, .slice L.po.a n2 L.po.c, .slice L.sg.a n3 L.sg.c, .slice L.rt.a n4 L.rt.c] L (some g9) (some V3.heap.size) (some M1) (some M2) := by rw [hV]; first | exact HS3.out.alloc10 | exact HSI.out.alloc10.drew
                obtain ⟨g10, hg⟩ : ∃ g, g = V3.heap.size := ⟨_, rfl⟩
                rw [← hg] at hS ⊢
                clear hg hV
                have HS4 := Lib.hid hS
                clear hS
                refine hK.out _ _ (HSC.out _ _ _ _ _ HS4.out) (fun hH => ?_)
                clear hK K
                refine wpAnyH_re 2 #[true, true, true, true, true, true, false, false] (by kernel_rfl) (by kernel_rfl) ?_
                refine wpAnyH_ready (rs := [6]) (by kernel_rfl) (by simp) (AllReadyH.cons (o := ⟨none, _, _, _, _, _⟩) rfl (fun K hK => ?_) AllReadyH.nil)
                have q := (HS4.out.b9 g9 rfl).1
                unfold ZO at q
                have c0 := blk_cell q 0 _ rfl
                have c1 := blk_cell q 1 _ rfl
                have c2 := blk_cell q 2 _ rfl
                have c3 := blk_cell q 3 _ rfl
                have f0 := blk_free q 0
                have f1 := blk_free q 1
                have f2 := blk_free q 2
                have f3 := blk_free q 3
                go_simp
                refine name_K ?_
                intro VA hV
                have ho : Only g9 V4 VA := by rw [hV]; exact ((((Only.refl g9 V4).setCell rfl _).setCell rfl _).setCell rfl _).setCell rfl _
                have hq : VA.heap[g9]? = some (.cells #[.slice M1.se.a n1 M1.se.c, .slice M1.po.a n2 M1.po.c, .slice M1.sg.a n3 M1.sg.c, .slice M1.rt.a n4 M1.rt.c] 39) := by rw [hV]; exact blk_set (blk_set (blk_set (blk_set q 0 _) 1 _) 2 _) 3 _
                have HO1 := Lib.hid ho
                have HQ1 := Lib.hid hq
                have hl := ho.keep (k := gl) (by have := (HS4.out.b9 g9 rfl).2; omega) HS4.out.lay
                have HLA := Lib.hid hl
                clear c0 c1 c2 c3 f0 f1 f2 f3 q ho hq hV
                refine hK.out _ _ ⟨blk_cell hl 0 _ rfl, blk_cell hl 1 _ rfl, blk_cell hl 2 _ rfl, blk_cell hl 3 _ rfl⟩ (fun hH => ?_)
                clear hK K hl
                refine wpAnyH_re 1 #[true, true, true, true, true, true, true, false] (by kernel_rfl) (by kernel_rfl) ?_
                refine wpAnyH_ready (rs := [7]) (by kernel_rfl) (by simp) (AllReadyH.cons (o := ⟨none, _, _, _, _, _⟩) rfl (fun K hK => ?_) AllReadyH.nil)
                have q := HO1.out.keep (k := g10) (by have := HS4.out.ne g9 rfl; intro e; exact this (by rw [e])) (HS4.out.b10 g10 rfl).1
                unfold ZO at q
                have c0 := blk_cell q 0 _ rfl
                have c1 := blk_cell q 1 _ rfl
                have c2 := blk_cell q 2 _ rfl
                have c3 := blk_cell q 3 _ rfl
                have f0 := blk_free q 0
                have f1 := blk_free q 1
                have f2 := blk_free q 2
                have f3 := blk_free q 3
                go_simp
                refine name_K ?_
                intro VB hV
                have ho : Only g10 VA VB := by rw [hV]; exact ((((Only.refl g10 VA).setCell rfl _).setCell rfl _).setCell rfl _).setCell rfl _
                have hq : VB.heap[g10]? = some (.cells #[.slice M2.se.a n1 M2.se.c, .slice M2.po.a n2 M2.po.c, .slice M2.sg.a n3 M2.sg.c, .slice M2.rt.a n4 M2.rt.c] 39) := by rw [hV]; exact blk_set (blk_set (blk_set (blk_set q 0 _) 1 _) 2 _) 3 _
                have HTB := Lib.hid (HS4.out.stores (by rw [HGL.out]; exact Nat.le_refl _) HO1.out ho HQ1.out hq)
                have hl := HTB.out.lay
                clear c0 c1 c2 c3 f0 f1 f2 f3 q ho hq hV
                refine hK.out _ _ ⟨blk_cell hl 0 _ rfl, blk_cell hl 1 _ rfl, blk_cell hl 2 _ rfl, blk_cell hl 3 _ rfl⟩ (fun hH => ?_)
                clear hK K hl
                refine wpAnyH_done (by kernel_rfl) ?_ _
                go_wp2_with fail
                go_meet
                exact ⟨g9, g10, M1, M2, rfl, rfl, HTB.out⟩
              · go_simp
                refine name_K ?_
                intro V3 hV
                have hS : St w V3 gl #[.slice L.se.a n1 L.se.c, .slice L.po.a n2 L.po.c, .slice L.sg.a n3 L.sg.c, .slice L.rt.a n4 L.rt.c] L none (some V2.heap.size) (some M1) (some M2) := by rw [hV]; first | exact HS2.out.alloc10 | exact HSI.out.alloc10.drew
                obtain ⟨g10, hg⟩ : ∃ g, g = V2.heap.size := ⟨_, rfl⟩
                rw [← hg] at hS ⊢
                clear hg hV
                have HS3 := Lib.hid hS
                clear hS
                refine hK.out _ _ (HSC.out _ _ _ _ _ HS3.out) (fun hH => ?_)
                clear hK K
                refine wpAnyH_re 3 #[true, true, true, true, false, true, false, false] (by kernel_rfl) (by kernel_rfl) ?_
                refine wpAnyH_ready (rs := [4]) (by kernel_rfl) (by simp) (AllReadyH.cons (o := ⟨some 9, _, _, _, _, _⟩) rfl (fun K hK => ?_) AllReadyH.nil)
                go_simp
                refine name_K ?_
                intro V4 hV
                have hS : St w V4 gl #[.slice L.se.a n1 L.se.c, .slice L.po.a n2 L.po.c, .slice L.sg.a n3 L.sg.c, .slice L.rt.a n4 L.rt.c] L (some V3.heap.size) (some g10) (some M1) (some M2) := by rw [hV]; first | exact HS3.out.alloc9 | exact HSI.out.alloc9.drew
                obtain ⟨g9, hg⟩ : ∃ g, g = V3.heap.size := ⟨_, rfl⟩
                rw [← hg] at hS ⊢
                clear hg hV
                have HS4 := Lib.hid hS
                clear hS
                refine hK.out _ _ (HSC.out _ _ _ _ _ HS4.out) (fun hH => ?_)
                clear hK K
                refine wpAnyH_re 2 #[true, true, true, true, true, true, false, false] (by kernel_rfl) (by kernel_rfl) ?_
                refine wpAnyH_ready (rs := [6]) (by kernel_rfl) (by simp) (AllReadyH.cons (o := ⟨none, _, _, _, _, _⟩) rfl (fun K hK => ?_) AllReadyH.nil)
                have q := (HS4.out.b9 g9 rfl).1
                unfold ZO at q
                have c0 := blk_cell q 0 _ rfl
                have c1 := blk_cell q 1 _ rfl
                have c2 := blk_cell q 2 _ rfl
                have c3 := blk_cell q 3 _ rfl
                have f0 := blk_free q 0
                have f1 := blk_free q 1
                have f2 := blk_free q 2
                have f3 := blk_free q 3
                go_simp
                refine name_K ?_
                intro VA hV
                have ho : Only g9 V4 VA := by rw [hV]; exact ((((Only.refl g9 V4).setCell rfl _).setCell rfl _).setCell rfl _).setCell rfl _
                have hq : VA.heap[g9]? = some (.cells #[.slice M1.se.a n1 M1.se.c, .slice M1.po.a n2 M1.po.c, .slice M1.sg.a n3 M1.sg.c, .slice M1.rt.a n4 M1.rt.c] 39) := by rw [hV]; exact blk_set (blk_set (blk_set (blk_set q 0 _) 1 _) 2 _) 3 _
                have HO1 := Lib.hid ho
                have HQ1 := Lib.hid hq
                have hl := ho.keep (k := gl) (by have := (HS4.out.b9 g9 rfl).2; omega) HS4.out.lay
                have HLA := Lib.hid hl
                clear c0 c1 c2 c3 f0 f1 f2 f3 q ho hq hV
                refine hK.out _ _ ⟨blk_cell hl 0 _ rfl, blk_cell hl 1 _ rfl, blk_cell hl 2 _ rfl, blk_cell hl 3 _ rfl⟩ (fun hH => ?_)
                clear hK K hl
                refine wpAnyH_re 1 #[true, true, true, true, true, true, true, false] (by kernel_rfl) (by kernel_rfl) ?_
                refine wpAnyH_ready (rs := [7]) (by kernel_rfl) (by simp) (AllReadyH.cons (o := ⟨none, _, _, _, _, _⟩) rfl (fun K hK => ?_) AllReadyH.nil)
                have q := HO1.out.keep (k := g10) (by have := HS4.out.ne g9 rfl; intro e; exact this (by rw [e])) (HS4.out.b10 g10 rfl).1
                unfold ZO at q
                have c0 := blk_cell q 0 _ rfl
                have c1 := blk_cell q 1 _ rfl
                have c2 := blk_cell q 2 _ rfl
                have c3 := blk_cell q 3 _ rfl
                have f0 := blk_free q 0
                have f1 := blk_free q 1
                have f2 := blk_free q 2
                have f3 := blk_free q 3
                go_simp
                refine name_K ?_
                intro VB hV
                have ho : Only g10 VA VB := by rw [hV]; exact ((((Only.refl g10 VA).setCell rfl _).setCell rfl _).setCell rfl _).setCell rfl _
                have hq : VB.heap[g10]? = some (.cells #[.slice M2.se.a n1 M2.se.c, .slice M2.po.a n2 M2.po.c, .slice M2.sg.a n3 M2.sg.c, .slice M2.rt.a n4 M2.rt.c] 39) := by rw [hV]; exact blk_set (blk_set (blk_set (blk_set q 0 _) 1 _) 2 _) 3 _
                have HTB := Lib.hid (HS4.out.stores (by rw [HGL.out]; exact Nat.le_refl _) HO1.out ho HQ1.out hq)
                have hl := HTB.out.lay
                clear c0 c1 c2 c3 f0 f1 f2 f3 q ho hq hV
                refine hK.out _ _ ⟨blk_cell hl 0 _ rfl, blk_cell hl 1 _ rfl, blk_cell hl 2 _ rfl, blk_cell hl 3 _ rfl⟩ (fun hH => ?_)
                clear hK K hl
                refine wpAnyH_done (by kernel_rfl) ?_ _
                go_wp2_with fail
                go_meet
                exact ⟨g9, g10, M1, M2, rfl, rfl, HTB.out⟩
            · go_simp
              refine name_K ?_
              intro V2 hV
              have hS : St w V2 gl #[.slice L.se.a n1 L.se.c, .slice L.po.a n2 L.po.c, .slice L.sg.a n3 L.sg.c, .slice L.rt.a n4 L.rt.c] L (some V1.heap.size) none (some M1) none := by rw [hV]; first | exact HS1.out.alloc9 | exact HSI.out.alloc9.drew
              obtain ⟨g9, hg⟩ : ∃ g, g = V1.heap.size := ⟨_, rfl⟩
              rw [← hg] at hS ⊢
              clear hg hV
              have HS2 := Lib.hid hS
              clear hS
              refine hK.out _ _ (HSC.out _ _ _ _ _ HS2.out) (fun hH => ?_)
              clear hK K
              refine wpAnyH_re 4 #[true, true, true, false, true, false, false, false] (by kernel_rfl) (by kernel_rfl) ?_
              refine wpAnyH_ready (rs := [3, 5]) (by kernel_rfl) (by simp) (AllReadyH.cons (o := ⟨some 55, _, _, _, _, _⟩) rfl (fun K hK => ?_) (AllReadyH.cons (o := ⟨some 10, _, _, _, _, _⟩) rfl (fun K hK => ?_) AllReadyH.nil))
              · go_simp
                refine (K4.out HM.out _ HS2.out.below).mono ?_
                rintro e V3 ⟨M2, rfl, hx, hs, hb⟩
                have HS3 := Lib.hid (HS2.out.call2 hx hs hb)
                refine hK.out _ _ (HSC.out _ _ _ _ _ HS3.out) (fun hH => ?_)
                clear hK K hx hs hb
                refine wpAnyH_re 3 #[true, true, true, true, true, false, false, false] (by kernel_rfl) (by kernel_rfl) ?_
                refine wpAnyH_ready (rs := [5]) (by kernel_rfl) (by simp) (AllReadyH.cons (o := ⟨some 10, _, _, _, _, _⟩) rfl (fun K hK => ?_) AllReadyH.nil)
                go_simp
                refine name_K ?_
                intro V4 hV
                have hS : St w V4 gl #[.slice L.se.a n1 L.se.c, .slice L.po.a n2 L.po.c, .slice L.sg.a n3 L.sg.c, .slice L.rt.a n4 L.rt.c] L (some g9) (some V3.heap.size) (some M1) (some M2) := by rw [hV]; first | exact HS3.out.alloc10 | exact HSI.out.alloc10.drew
                obtain ⟨g10, hg⟩ : ∃ g, g = V3.heap.size := ⟨_, rfl⟩
                rw [← hg] at hS ⊢
                clear hg hV
                have HS4 := Lib.hid hS
                clear hS
                refine hK.out _ _ (HSC.out _ _ _ _ _ HS4.out) (fun hH => ?_)
                clear hK K
                refine wpAnyH_re 2 #[true, true, true, true, true, true, false, false] (by kernel_rfl) (by kernel_rfl) ?_
                refine wpAnyH_ready (rs := [6]) (by kernel_rfl) (by simp) (AllReadyH.cons (o := ⟨none, _, _, _, _, _⟩) rfl (fun K hK => ?_) AllReadyH.nil)
                have q := (HS4.out.b9 g9 rfl).1
                unfold ZO at q
                have c0 := blk_cell q 0 _ rfl
                have c1 := blk_cell q 1 _ rfl
                have c2 := blk_cell q 2 _ rfl
                have c3 := blk_cell q 3 _ rfl
                have f0 := blk_free q 0
                have f1 := blk_free q 1
                have f2 := blk_free q 2
                have f3 := blk_free q 3
                go_simp
                refine name_K ?_
                intro VA hV
                have ho : Only g9 V4 VA := by rw [hV]; exact ((((Only.refl g9 V4).setCell rfl _).setCell rfl _).setCell rfl _).setCell rfl _
                have hq : VA.heap[g9]? = some (.cells #[.slice M1.se.a n1 M1.se.c, .slice M1.po.a n2 M1.po.c, .slice M1.sg.a n3 M1.sg.c, .slice M1.rt.a n4 M1.rt.c] 39) := by rw [hV]; exact blk_set (blk_set (blk_set (blk_set q 0 _) 1 _) 2 _) 3 _
                have HO1 := Lib.hid ho
                have HQ1 := Lib.hid hq
                have hl := ho.keep (k := gl) (by have := (HS4.out.b9 g9 rfl).2; omega) HS4.out.lay
                have HLA := Lib.hid hl
                clear c0 c1 c2 c3 f0 f1 f2 f3 q ho hq hV
                refine hK.out _ _ ⟨blk_cell hl 0 _ rfl, blk_cell hl 1 _ rfl, blk_cell hl 2 _ rfl, blk_cell hl 3 _ rfl⟩ (fun hH => ?_)
                clear hK K hl
                refine wpAnyH_re 1 #[true, true, true, true, true, true, true, false] (by kernel_rfl) (by kernel_rfl) ?_
                refine wpAnyH_ready (rs := [7]) (by kernel_rfl) (by simp) (AllReadyH.cons (o := ⟨none, _, _, _, _, _⟩) rfl (fun K hK => ?_) AllReadyH.nil)
                have q := HO1.out.keep (k := g10) (by have := HS4.out.ne g9 rfl; intro e; exact this (by rw [e])) (HS4.out.b10 g10 rfl).1
                unfold ZO at q
                have c0 := blk_cell q 0 _ rfl
                have c1 := blk_cell q 1 _ rfl
                have c2 := blk_cell q 2 _ rfl
                have c3 := blk_cell q 3 _ rfl
                have f0 := blk_free q 0
                have f1 := blk_free q 1
                have f2 := blk_free q 2
                have f3 := blk_free q 3
                go_simp
                refine name_K ?_
                intro VB hV
                have ho : Only g10 VA VB := by rw [hV]; exact ((((Only.refl g10 VA).setCell rfl _).setCell rfl _).setCell rfl _).setCell rfl _
                have hq : VB.heap[g10]? = some (.cells #[.slice M2.se.a n1 M2.se.c, .slice M2.po.a n2 M2.po.c, .slice M2.sg.a n3 M2.sg.c, .slice M2.rt.a n4 M2.rt.c] 39) := by rw [hV]; exact blk_set (blk_set (blk_set (blk_set q 0 _) 1 _) 2 _) 3 _
                have HTB := Lib.hid (HS4.out.stores (by rw [HGL.out]; exact Nat.le_refl _) HO1.out ho HQ1.out hq)
                have hl := HTB.out.lay
                clear c0 c1 c2 c3 f0 f1 f2 f3 q ho hq hV
                refine hK.out _ _ ⟨blk_cell hl 0 _ rfl, blk_cell hl 1 _ rfl, blk_cell hl 2 _ rfl, blk_cell hl 3 _ rfl⟩ (fun hH => ?_)
                clear hK K hl
                refine wpAnyH_done (by kernel_rfl) ?_ _
                go_wp2_with fail
                go_meet
                exact ⟨g9, g10, M1, M2, rfl, rfl, HTB.out⟩
              · go_simp
                refine name_K ?_
                intro V3 hV
                have hS : St w V3 gl #[.slice L.se.a n1 L.se.c, .slice L.po.a n2 L.po.c, .slice L.sg.a n3 L.sg.c, .slice L.rt.a n4 L.rt.c] L (some g9) (some V2.heap.size) (some M1) none := by rw [hV]; first | exact HS2.out.alloc10 | exact HSI.out.alloc10.drew
                obtain ⟨g10, hg⟩ : ∃ g, g = V2.heap.size := ⟨_, rfl⟩
                rw [← hg] at hS ⊢
                clear hg hV
                have HS3 := Lib.hid hS
                clear hS
                refine hK.out _ _ (HSC.out _ _ _ _ _ HS3.out) (fun hH => ?_)
                clear hK K
                refine wpAnyH_re 3 #[true, true, true, false, true, true, false, false] (by kernel_rfl) (by kernel_rfl) ?_
                refine wpAnyH_ready (rs := [3]) (by kernel_rfl) (by simp) (AllReadyH.cons (o := ⟨some 55, _, _, _, _, _⟩) rfl (fun K hK => ?_) AllReadyH.nil)
                go_simp
                refine (K4.out HM.out _ HS3.out.below).mono ?_
                rintro e V4 ⟨M2, rfl, hx, hs, hb⟩
                have HS4 := Lib.hid (HS3.out.call2 hx hs hb)
                refine hK.out _ _ (HSC.out _ _ _ _ _ HS4.out) (fun hH => ?_)
                clear hK K hx hs hb
                refine wpAnyH_re 2 #[true, true, true, true, true, true, false, false] (by kernel_rfl) (by kernel_rfl) ?_
                refine wpAnyH_ready (rs := [6]) (by kernel_rfl) (by simp) (AllReadyH.cons (o := ⟨none, _, _, _, _, _⟩) rfl (fun K hK => ?_) AllReadyH.nil)
                have q := (HS4.out.b9 g9 rfl).1
                unfold ZO at q
                have c0 := blk_cell q 0 _ rfl
                have c1 := blk_cell q 1 _ rfl
                have c2 := blk_cell q 2 _ rfl
                have c3 := blk_cell q 3 _ rfl
                have f0 := blk_free q 0
                have f1 := blk_free q 1
                have f2 := blk_free q 2
                have f3 := blk_free q 3
                go_simp
                refine name_K ?_
                intro VA hV
                have ho : Only g9 V4 VA := by rw [hV]; exact ((((Only.refl g9 V4).setCell rfl _).setCell rfl _).setCell rfl _).setCell rfl _
                have hq : VA.heap[g9]? = some (.cells #[.slice M1.se.a n1 M1.se.c, .slice M1.po.a n2 M1.po.c, .slice M1.sg.a n3 M1.sg.c, .slice M1.rt.a n4 M1.rt.c] 39) := by rw [hV]; exact blk_set (blk_set (blk_set (blk_set q 0 _) 1 _) 2 _) 3 _
                have HO1 := Lib.hid ho
                have HQ1 := Lib.hid hq
                have hl := ho.keep (k := gl) (by have := (HS4.out.b9 g9 rfl).2; omega) HS4.out.lay
                have HLA := Lib.hid hl
                clear c0 c1 c2 c3 f0 f1 f2 f3 q ho hq hV
                refine hK.out _ _ ⟨blk_cell hl 0 _ rfl, blk_cell hl 1 _ rfl, blk_cell hl 2 _ rfl, blk_cell hl 3 _ rfl⟩ (fun hH => ?_)
                clear hK K hl
                refine wpAnyH_re 1 #[true, true, true, true, true, true, true, false] (by kernel_rfl) (by kernel_rfl) ?_
                refine wpAnyH_ready (rs := [7]) (by kernel_rfl) (by simp) (AllReadyH.cons (o := ⟨none, _, _, _, _, _⟩) rfl (fun K hK => ?_) AllReadyH.nil)
                have q := HO1.out.keep (k := g10) (by have := HS4.out.ne g9 rfl; intro e; exact this (by rw [e])) (HS4.out.b10 g10 rfl).1
                unfold ZO at q
                have c0 := blk_cell q 0 _ rfl
                have c1 := blk_cell q 1 _ rfl
                have c2 := blk_cell q 2 _ rfl
                have c3 := blk_cell q 3 _ rfl
                have f0 := blk_free q 0
                have f1 := blk_free q 1
                have f2 := blk_free q 2
                have f3 := blk_free q 3
                go_simp
                refine name_K ?_
                intro VB hV
                have ho : Only g10 VA VB := by rw [hV]; exact ((((Only.refl g10 VA).setCell rfl _).setCell rfl _).setCell rfl _).setCell rfl _
                have hq : VB.heap[g10]? = some (.cells #[.slice M2.se.a n1 M2.se.c, .slice M2.po.a n2 M2.po.c, .slice M2.sg.a n3 M2.sg.c, .slice M2.rt.a n4 M2.rt.c] 39) := by rw [hV]; exact blk_set (blk_set (blk_set (blk_set q 0 _) 1 _) 2 _) 3 _
                have HTB := Lib.hid (HS4.out.stores (by rw [HGL.out]; exact Nat.le_refl _) HO1.out ho HQ1.out hq)
                have hl := HTB.out.lay
                clear c0 c1 c2 c3 f0 f1 f2 f3 q ho hq hV
                refine hK.out _ _ ⟨blk_cell hl 0 _ rfl, blk_cell hl 1 _ rfl, blk_cell hl 2 _ rfl, blk_cell hl 3 _ rfl⟩ (fun hH => ?_)
                clear hK K hl
                refine wpAnyH_done (by kernel_rfl) ?_ _
                go_wp2_with fail
                go_meet
                exact ⟨g9, g10, M1, M2, rfl, rfl, HTB.out⟩
            · go_simp
              refine name_K ?_
              intro V2 hV
              have hS : St w V2 gl #[.slice L.se.a n1 L.se.c, .slice L.po.a n2 L.po.c, .slice L.sg.a n3 L.sg.c, .slice L.rt.a n4 L.rt.c] L none (some V1.heap.size) (some M1) none := by rw [hV]; first | exact HS1.out.alloc10 | exact HSI.out.alloc10.drew
              obtain ⟨g10, hg⟩ : ∃ g, g = V1.heap.size := ⟨_, rfl⟩
              rw [← hg] at hS ⊢
              clear hg hV
              have HS2 := Lib.hid hS
              clear hS
              refine hK.out _ _ (HSC.out _ _ _ _ _ HS2.out) (fun hH => ?_)
              clear hK K
              refine wpAnyH_re 4 #[true, true, true, false, false, true, false, false] (by kernel_rfl) (by kernel_rfl) ?_
              refine wpAnyH_ready (rs := [3, 4]) (by kernel_rfl) (by simp) (AllReadyH.cons (o := ⟨some 55, _, _, _, _, _⟩) rfl (fun K hK => ?_) (AllReadyH.cons (o := ⟨some 9, _, _, _, _, _⟩) rfl (fun K hK => ?_) AllReadyH.nil))
              · go_simp
                refine (K4.out HM.out _ HS2.out.below).mono ?_
                rintro e V3 ⟨M2, rfl, hx, hs, hb⟩
                have HS3 := Lib.hid (HS2.out.call2 hx hs hb)
                refine hK.out _ _ (HSC.out _ _ _ _ _ HS3.out) (fun hH => ?_)
                clear hK K hx hs hb
                refine wpAnyH_re 3 #[true, true, true, true, false, true, false, false] (by kernel_rfl) (by kernel_rfl) ?_
                refine wpAnyH_ready (rs := [4]) (by kernel_rfl) (by simp) (AllReadyH.cons (o := ⟨some 9, _, _, _, _, _⟩) rfl (fun K hK => ?_) AllReadyH.nil)
                go_simp
                refine name_K ?_
                intro V4 hV
                have hS : St w V4 gl #[.slice L.se.a n1 L.se.c, .slice L.po.a n2 L.po.c, .slice L.sg.a n3 L.sg.c, .slice L.rt.a n4 L.rt.c] L (some V3.heap.size) (some g10) (some M1) (some M2) := by rw [hV]; first | exact HS3.out.alloc9 | exact HSI.out.alloc9.drew
                obtain ⟨g9, hg⟩ : ∃ g, g = V3.heap.size := ⟨_, rfl⟩
                rw [← hg] at hS ⊢
                clear hg hV
                have HS4 := Lib.hid hS
                clear hS
                refine hK.out _ _ (HSC.out _ _ _ _ _ HS4.out) (fun hH => ?_)
                clear hK K
                refine wpAnyH_re 2 #[true, true, true, true, true, true, false, false] (by kernel_rfl) (by kernel_rfl) ?_
                refine wpAnyH_ready (rs := [6]) (by kernel_rfl) (by simp) (AllReadyH.cons (o := ⟨none, _, _, _, _, _⟩) rfl (fun K hK => ?_) AllReadyH.nil)
                have q := (HS4.out.b9 g9 rfl).1
                unfold ZO at q
                have c0 := blk_cell q 0 _ rfl
                have c1 := blk_cell q 1 _ rfl
                have c2 := blk_cell q 2 _ rfl
                have c3 := blk_cell q 3 _ rfl
                have f0 := blk_free q 0
                have f1 := blk_free q 1
                have f2 := blk_free q 2
                have f3 := blk_free q 3
                go_simp
                refine name_K ?_
                intro VA hV
                have ho : Only g9 V4 VA := by rw [hV]; exact ((((Only.refl g9 V4).setCell rfl _).setCell rfl _).setCell rfl _).setCell rfl _
                have hq : VA.heap[g9]? = some (.cells #[.slice M1.se.a n1 M1.se.c, .slice M1.po.a n2 M1.po.c, .slice M1.sg.a n3 M1.sg.c, .slice M1.rt.a n4 M1.rt.c] 39) := by rw [hV]; exact blk_set (blk_set (blk_set (blk_set q 0 _) 1 _) 2 _) 3 _
                have HO1 := Lib.hid ho
                have HQ1 := Lib.hid hq
                have hl := ho.keep (k := gl) (by have := (HS4.out.b9 g9 rfl).2; omega) HS4.out.lay
                have HLA := Lib.hid hl
                clear c0 c1 c2 c3 f0 f1 f2 f3 q ho hq hV
                refine hK.out _ _ ⟨blk_cell hl 0 _ rfl, blk_cell hl 1 _ rfl, blk_cell hl 2 _ rfl, blk_cell hl 3 _ rfl⟩ (fun hH => ?_)
                clear hK K hl
                refine wpAnyH_re 1 #[true, true, true, true, true, true, true, false] (by kernel_rfl) (by kernel_rfl) ?_
                refine wpAnyH_ready (rs := [7]) (by kernel_rfl) (by simp) (AllReadyH.cons (o := ⟨none, _, _, _, _, _⟩) rfl (fun K hK => ?_) AllReadyH.nil)
                have q := HO1.out.keep (k := g10) (by have := HS4.out.ne g9 rfl; intro e; exact this (by rw [e])) (HS4.out.b10 g10 rfl).1
                unfold ZO at q
                have c0 := blk_cell q 0 _ rfl
                have c1 := blk_cell q 1 _ rfl
                have c2 := blk_cell q 2 _ rfl
                have c3 := blk_cell q 3 _ rfl
                have f0 := blk_free q 0
                have f1 := blk_free q 1
                have f2 := blk_free q 2
                have f3 := blk_free q 3
                go_simp
                refine name_K ?_
                intro VB hV
                have ho : Only g10 VA VB := by rw [hV]; exact ((((Only.refl g10 VA).setCell rfl _).setCell rfl _).setCell rfl _).setCell rfl _
                have hq : VB.heap[g10]? = some (.cells #[.slice M2.se.a n1 M2.se.c, .slice M2.po.a n2 M2.po.c, .slice M2.sg.a n3 M2.sg.c, .slice M2.rt.a n4 M2.rt.c] 39) := by rw [hV]; exact blk_set (blk_set (blk_set (blk_set q 0 _) 1 _) 2 _) 3 _
                have HTB := Lib.hid (HS4.out.stores (by rw [HGL.out]; exact Nat.le_refl _) HO1.out ho HQ1.out hq)
                have hl := HTB.out.lay
                clear c0 c1 c2 c3 f0 f1 f2 f3 q ho hq hV
                refine hK.out _ _ ⟨blk_cell hl 0 _ rfl, blk_cell hl 1 _ rfl, blk_cell hl 2 _ rfl, blk_cell hl 3 _ rfl⟩ (fun hH => ?_)
                clear hK K hl
                refine wpAnyH_done (by kernel_rfl) ?_ _
                go_wp2_with fail
                go_meet
                exact ⟨g9, g10, M1, M2, rfl, rfl, HTB.out⟩
              · go_simp
                refine name_K ?_
                intro V3 hV
                have hS : St w V3 gl #[.slice L.se.a n1 L.se.c, .slice L.po.a n2 L.po.c, .slice L.sg.a n3 L.sg.c, .slice L.rt.a n4 L.rt.c] L (some V2.heap.size) (some g10) (some M1) none := by rw [hV]; first | exact HS2.out.alloc9 | exact HSI.out.alloc9.drew
                obtain ⟨g9, hg⟩ : ∃ g, g = V2.heap.size := ⟨_, rfl⟩
                rw [← hg] at hS ⊢
                clear hg hV
                have HS3 := Lib.hid hS
                clear hS
                refine hK.out _ _ (HSC.out _ _ _ _ _ HS3.out) (fun hH => ?_)
                clear hK K
                refine wpAnyH_re 3 #[true, true, true, false, true, true, false, false] (by kernel_rfl) (by kernel_rfl) ?_
                refine wpAnyH_ready (rs := [3]) (by kernel_rfl) (by simp) (AllReadyH.cons (o := ⟨some 55, _, _, _, _, _⟩) rfl (fun K hK => ?_) AllReadyH.nil)
                go_simp
                refine (K4.out HM.out _ HS3.out.below).mono ?_
                rintro e V4 ⟨M2, rfl, hx, hs, hb⟩
                have HS4 := Lib.hid (HS3.out.call2 hx hs hb)
                refine hK.out _ _ (HSC.out _ _ _ _ _ HS4.out) (fun hH => ?_)
                clear hK K hx hs hb
                refine wpAnyH_re 2 #[true, true, true, true, true, true, false, false] (by kernel_rfl) (by kernel_rfl) ?_
                refine wpAnyH_ready (rs := [6]) (by kernel_rfl) (by simp) (AllReadyH.cons (o := ⟨none, _, _, _, _, _⟩) rfl (fun K hK => ?_) AllReadyH.nil)
                have q := (HS4.out.b9 g9 rfl).1
                unfold ZO at q
                have c0 := blk_cell q 0 _ rfl
                have c1 := blk_cell q 1 _ rfl
                have c2 := blk_cell q 2 _ rfl
                have c3 := blk_cell q 3 _ rfl
                have f0 := blk_free q 0
                have f1 := blk_free q 1
                have f2 := blk_free q 2
                have f3 := blk_free q 3
                go_simp
                refine name_K ?_
                intro VA hV
                have ho : Only g9 V4 VA := by rw [hV]; exact ((((Only.refl g9 V4).setCell rfl _).setCell rfl _).setCell rfl _).setCell rfl _
                have hq : VA.heap[g9]? = some (.cells #[.slice M1.se.a n1 M1.se.c, .slice M1.po.a n2 M1.po.c, .slice M1.sg.a n3 M1.sg.c, .slice M1.rt.a n4 M1.rt.c] 39) := by rw [hV]; exact blk_set (blk_set (blk_set (blk_set q 0 _) 1 _) 2 _) 3 _
                have HO1 := Lib.hid ho
                have HQ1 := Lib.hid hq
                have hl := ho.keep (k := gl) (by have := (HS4.out.b9 g9 rfl).2; omega) HS4.out.lay
                have HLA := Lib.hid hl
                clear c0 c1 c2 c3 f0 f1 f2 f3 q ho hq hV
                refine hK.out _ _ ⟨blk_cell hl 0 _ rfl, blk_cell hl 1 _ rfl, blk_cell hl 2 _ rfl, blk_cell hl 3 _ rfl⟩ (fun hH => ?_)
                clear hK K hl
                refine wpAnyH_re 1 #[true, true, true, true, true, true, true, false] (by kernel_rfl) (by kernel_rfl) ?_
                refine wpAnyH_ready (rs := [7]) (by kernel_rfl) (by simp) (AllReadyH.cons (o := ⟨none, _, _, _, _, _⟩) rfl (fun K hK => ?_) AllReadyH.nil)
                have q := HO1.out.keep (k := g10) (by have := HS4.out.ne g9 rfl; intro e; exact this (by rw [e])) (HS4.out.b10 g10 rfl).1
                unfold ZO at q
                have c0 := blk_cell q 0 _ rfl
                have c1 := blk_cell q 1 _ rfl
                have c2 := blk_cell q 2 _ rfl
                have c3 := blk_cell q 3 _ rfl
                have f0 := blk_free q 0
                have f1 := blk_free q 1
                have f2 := blk_free q 2
                have f3 := blk_free q 3
                go_simp
                refine name_K ?_
                intro VB hV
                have ho : Only g10 VA VB := by rw [hV]; exact ((((Only.refl g10 VA).setCell rfl _).setCell rfl _).setCell rfl _).setCell rfl _
                have hq : VB.heap[g10]? = some (.cells #[.slice M2.se.a n1 M2.se.c, .slice M2.po.a n2 M2.po.c, .slice M2.sg.a n3 M2.sg.c, .slice M2.rt.a n4 M2.rt.c] 39) := by rw [hV]; exact blk_set (blk_set (blk_set (blk_set q 0 _) 1 _) 2 _) 3 _
                have HTB := Lib.hid (HS4.out.stores (by rw [HGL.out]; exact Nat.le_refl _) HO1.out ho HQ1.out hq)
                have hl := HTB.out.lay
                clear c0 c1 c2 c3 f0 f1 f2 f3 q ho hq hV
                refine hK.out _ _ ⟨blk_cell hl 0 _ rfl, blk_cell hl 1 _ rfl, blk_cell hl 2 _ rfl, blk_cell hl 3 _ rfl⟩ (fun hH => ?_)
                clear hK K hl
                refine wpAnyH_done (by kernel_rfl) ?_ _
                go_wp2_with fail
                go_meet
                exact ⟨g9, g10, M1, M2, rfl, rfl, HTB.out⟩
          · go_simp
            refine name_K ?_
            intro V1 hV
            have hS : St w V1 gl #[.slice L.se.a n1 L.se.c, .slice L.po.a n2 L.po.c, .slice L.sg.a n3 L.sg.c, .slice L.rt.a n4 L.rt.c] L (some wr.heap.size) none none none := by rw [hV]; first | exact HS0.out.alloc9 | exact HSI.out.alloc9.drew
            obtain ⟨g9, hg⟩ : ∃ g, g = wr.heap.size := ⟨_, rfl⟩
            rw [← hg] at hS ⊢
            clear hg hV
            have HS1 := Lib.hid hS
            clear hS
            refine hK.out _ _ (HSC.out _ _ _ _ _ HS1.out) (fun hH => ?_)
            clear hK K
            refine wpAnyH_re 5 #[true, false, true, false, true, false, false, false] (by kernel_rfl) (by kernel_rfl) ?_
            refine wpAnyH_ready (rs := [1, 5]) (by kernel_rfl) (by simp) (AllReadyH.cons (o := ⟨some 53, _, _, _, _, _⟩) rfl (fun K hK => ?_) (AllReadyH.cons (o := ⟨some 10, _, _, _, _, _⟩) rfl (fun K hK => ?_) AllReadyH.nil))
            · go_simp
              refine (K4.out HM.out _ HS1.out.below).mono ?_
              rintro e V2 ⟨M1, rfl, hx, hs, hb⟩
              have HS2 := Lib.hid (HS1.out.call1 hx hs hb)
              refine hK.out _ _ (HSC.out _ _ _ _ _ HS2.out) (fun hH => ?_)
              clear hK K hx hs hb
              refine wpAnyH_re 4 #[true, true, true, false, true, false, false, false] (by kernel_rfl) (by kernel_rfl) ?_
              refine wpAnyH_ready (rs := [3, 5]) (by kernel_rfl) (by simp) (AllReadyH.cons (o := ⟨some 55, _, _, _, _, _⟩) rfl (fun K hK => ?_) (AllReadyH.cons (o := ⟨some 10, _, _, _, _, _⟩) rfl (fun K hK => ?_) AllReadyH.nil))
              · go_simp
                refine (K4.out HM.out _ HS2.out.below).mono ?_
                rintro e V3 ⟨M2, rfl, hx, hs, hb⟩
                have HS3 := Lib.hid (HS2.out.call2 hx hs hb)
                refine hK.out _ _ (HSC.out _ _ _ _ _ HS3.out) (fun hH => ?_)
                clear hK K hx hs hb
                refine wpAnyH_re 3 #[true, true, true, true, true, false, false, false] (by kernel_rfl) (by kernel_rfl) ?_
                refine wpAnyH_ready (rs := [5]) (by kernel_rfl) (by simp) (AllReadyH.cons (o := ⟨some 10, _, _, _, _, _⟩) rfl (fun K hK => ?_) AllReadyH.nil)
                go_simp
                refine name_K ?_
                intro V4 hV
                have hS : St w V4 gl #[.slice L.se.a n1 L.se.c, .slice L.po.a n2 L.po.c, .slice L.sg.a n3 L.sg.c, .slice L.rt.a n4 L.rt.c] L (some g9) (some V3.heap.size) (some M1) (some M2) := by rw [hV]; first | exact HS3.out.alloc10 | exact HSI.out.alloc10.drew
                obtain ⟨g10, hg⟩ : ∃ g, g = V3.heap.size := ⟨_, rfl⟩
                rw [← hg] at hS ⊢
                clear hg hV
                have HS4 := Lib.hid hS
                clear hS
                refine hK.out _ _ (HSC.out _ _ _ _ _ HS4.out) (fun hH => ?_)
                clear hK K
                refine wpAnyH_re 2 #[true, true, true, true, true, true, false, false] (by kernel_rfl) (by kernel_rfl) ?_
                refine wpAnyH_ready (rs := [6]) (by kernel_rfl) (by simp) (AllReadyH.cons (o := ⟨none, _, _, _, _, _⟩) rfl (fun K hK => ?_) AllReadyH.nil)
                have q := (HS4.out.b9 g9 rfl).1
                unfold ZO at q
                have c0 := blk_cell q 0 _ rfl
                have c1 := blk_cell q 1 _ rfl
                have c2 := blk_cell q 2 _ rfl
                have c3 := blk_cell q 3 _ rfl
                have f0 := blk_free q 0
                have f1 := blk_free q 1
                have f2 := blk_free q 2
                have f3 := blk_free q 3
                go_simp
                refine name_K ?_
                intro VA hV
                have ho : Only g9 V4 VA := by rw [hV]; exact ((((Only.refl g9 V4).setCell rfl _).setCell rfl _).setCell rfl _).setCell rfl _
                have hq : VA.heap[g9]? = some (.cells #[.slice M1.se.a n1 M1.se.c, .slice M1.po.a n2 M1.po.c, .slice M1.sg.a n3 M1.sg.c, .slice M1.rt.a n4 M1.rt.c] 39) := by rw [hV]; exact blk_set (blk_set (blk_set (blk_set q 0 _) 1 _) 2 _) 3 _
                have HO1 := Lib.hid ho
                have HQ1 := Lib.hid hq
                have hl := ho.keep (k := gl) (by have := (HS4.out.b9 g9 rfl).2; omega) HS4.out.lay
                have HLA := Lib.hid hl
                clear c0 c1 c2 c3 f0 f1 f2 f3 q ho hq hV
                refine hK.out _ _ ⟨blk_cell hl 0 _ rfl, blk_cell hl 1 _ rfl, blk_cell hl 2 _ rfl, blk_cell hl 3 _ rfl⟩ (fun hH => ?_)
                clear hK K hl
                refine wpAnyH_re 1 #[true, true, true, true, true, true, true, false] (by kernel_rfl) (by kernel_rfl) ?_
                refine wpAnyH_ready (rs := [7]) (by kernel_rfl) (by simp) (AllReadyH.cons (o := ⟨none, _, _, _, _, _⟩) rfl (fun K hK => ?_) AllReadyH.nil)
                have q := HO1.out.keep (k := g10) (by have := HS4.out.ne g9 rfl; intro e; exact this (by rw [e])) (HS4.out.b10 g10 rfl).1
                unfold ZO at q
                have c0 := blk_cell q 0 _ rfl
                have c1 := blk_cell q 1 _ rfl
                have c2 := blk_cell q 2 _ rfl
                have c3 := blk_cell q 3 _ rfl
                have f0 := blk_free q 0
                have f1 := blk_free q 1
                have f2 := blk_free q 2
                have f3 := blk_free q 3
                go_simp
                refine name_K ?_
                intro VB hV
                have ho : Only g10 VA VB := by rw [hV]; exact ((((Only.refl g10 VA).setCell rfl _).setCell rfl _).setCell rfl _).setCell rfl _
                have hq : VB.heap[g10]? = some (.cells #[.slice M2.se.a n1 M2.se.c, .slice M2.po.a n2 M2.po.c, .slice M2.sg.a n3 M2.sg.c, .slice M2.rt.a n4 M2.rt.c] 39) := by rw [hV]; exact blk_set (blk_set (blk_set (blk_set q 0 _) 1 _) 2 _) 3 _
                have HTB := Lib.hid (HS4.out.stores (by rw [HGL.out]; exact Nat.le_refl _) HO1.out ho HQ1.out hq)
                have hl := HTB.out.lay
                clear c0 c1 c2 c3 f0 f1 f2 f3 q ho hq hV
                refine hK.out _ _ ⟨blk_cell hl 0 _ rfl, blk_cell hl 1 _ rfl, blk_cell hl 2 _ rfl, blk_cell hl 3 _ rfl⟩ (fun hH => ?_)
                clear hK K hl
                refine wpAnyH_done (by kernel_rfl) ?_ _
                go_wp2_with fail
                go_meet
                exact ⟨g9, g10, M1, M2, rfl, rfl, HTB.out⟩
              · go_simp
                refine name_K ?_
                intro V3 hV
                have hS : St w V3 gl #[.slice L.se.a n1 L.se.c, .slice L.po.a n2 L.po.c, .slice L.sg.a n3 L.sg.c, .slice L.rt.a n4 L.rt.c] L (some g9) (some V2.heap.size) (some M1) none := by rw [hV]; first | exact HS2.out.alloc10 | exact HSI.out.alloc10.drew
                obtain ⟨g10, hg⟩ : ∃ g, g = V2.heap.size := ⟨_, rfl⟩
                rw [← hg] at hS ⊢
                clear hg hV
                have HS3 := Lib.hid hS
                clear hS
                refine hK.out _ _ (HSC.out _ _ _ _ _ HS3.out) (fun hH => ?_)
                clear hK K
                refine wpAnyH_re 3 #[true, true, true, false, true, true, false, false] (by kernel_rfl) (by kernel_rfl) ?_
                refine wpAnyH_ready (rs := [3]) (by kernel_rfl) (by simp) (AllReadyH.cons (o := ⟨some 55, _, _, _, _, _⟩) rfl (fun K hK => ?_) AllReadyH.nil)
                go_simp
                refine (K4.out HM.out _ HS3.out.below).mono ?_
                rintro e V4 ⟨M2, rfl, hx, hs, hb⟩
                have HS4 := Lib.hid (HS3.out.call2 hx hs hb)
                refine hK.out _ _ (HSC.out _ _ _ _ _ HS4.out) (fun hH => ?_)
                clear hK K hx hs hb
                refine wpAnyH_re 2 #[true, true, true, true, true, true, false, false] (by kernel_rfl) (by kernel_rfl) ?_
                refine wpAnyH_ready (rs := [6]) (by kernel_rfl) (by simp) (AllReadyH.cons (o := ⟨none, _, _, _, _, _⟩) rfl (fun K hK => ?_) AllReadyH.nil)
                have q := (HS4.out.b9 g9 rfl).1
                unfold ZO at q
                have c0 := blk_cell q 0 _ rfl
                have c1 := blk_cell q 1 _ rfl
                have c2 := blk_cell q 2 _ rfl
                have c3 := blk_cell q 3 _ rfl
                have f0 := blk_free q 0
                have f1 := blk_free q 1
                have f2 := blk_free q 2
                have f3 := blk_free q 3
                go_simp
                refine name_K ?_
                intro VA hV
                have ho : Only g9 V4 VA := by rw [hV]; exact ((((Only.refl g9 V4).setCell rfl _).setCell rfl _).setCell rfl _).setCell rfl _
                have hq : VA.heap[g9]? = some (.cells #[.slice M1.se.a n1 M1.se.c, .slice M1.po.a n2 M1.po.c, .slice M1.sg.a n3 M1.sg.c, .slice M1.rt.a n4 M1.rt.c] 39) := by rw [hV]; exact blk_set (blk_set (blk_set (blk_set q 0 _) 1 _) 2 _) 3 _
                have HO1 := Lib.hid ho
                have HQ1 := Lib.hid hq
                have hl := ho.keep (k := gl) (by have := (HS4.out.b9 g9 rfl).2; omega) HS4.out.lay
                have HLA := Lib.hid hl
                clear c0 c1 c2 c3 f0 f1 f2 f3 q ho hq hV
                refine hK.out _ _ ⟨blk_cell hl 0 _ rfl, blk_cell hl 1 _ rfl, blk_cell hl 2 _ rfl, blk_cell hl 3 _ rfl⟩ (fun hH => ?_)
                clear hK K hl
                refine wpAnyH_re 1 #[true, true, true, true, true, true, true, false] (by kernel_rfl) (by kernel_rfl) ?_
                refine wpAnyH_ready (rs := [7]) (by kernel_rfl) (by simp) (AllReadyH.cons (o := ⟨none, _, _, _, _, _⟩) rfl (fun K hK => ?_) AllReadyH.nil)
                have q := HO1.out.keep (k := g10) (by have := HS4.out.ne g9 rfl; intro e; exact this (by rw [e])) (HS4.out.b10 g10 rfl).1
                unfold ZO at q
                have c0 := blk_cell q 0 _ rfl
                have c1 := blk_cell q 1 _ rfl
                have c2 := blk_cell q 2 _ rfl
                have c3 := blk_cell q 3 _ rfl
                have f0 := blk_free q 0
                have f1 := blk_free q 1
                have f2 := blk_free q 2
                have f3 := blk_free q 3
                go_simp
                refine name_K ?_
                intro VB hV
                have ho : Only g10 VA VB := by rw [hV]; exact ((((Only.refl g10 VA).setCell rfl _).setCell rfl _).setCell rfl _).setCell rfl _
                have hq : VB.heap[g10]? = some (.cells #[.slice M2.se.a n1 M2.se.c, .slice M2.po.a n2 M2.po.c, .slice M2.sg.a n3 M2.sg.c, .slice M2.rt.a n4 M2.rt.c] 39) := by rw [hV]; exact blk_set (blk_set (blk_set (blk_set q 0 _) 1 _) 2 _) 3 _
                have HTB := Lib.hid (HS4.out.stores (by rw [HGL.out]; exact Nat.le_refl _) HO1.out ho HQ1.out hq)
                have hl := HTB.out.lay
                clear c0 c1 c2 c3 f0 f1 f2 f3 q ho hq hV
                refine hK.out _ _ ⟨blk_cell hl 0 _ rfl, blk_cell hl 1 _ rfl, blk_cell hl 2 _ rfl, blk_cell hl 3 _ rfl⟩ (fun hH => ?_)
                clear hK K hl
                refine wpAnyH_done (by kernel_rfl) ?_ _
                go_wp2_with fail
                go_meet
                exact ⟨g9, g10, M1, M2, rfl, rfl, HTB.out⟩
            · go_simp
              refine name_K ?_
              intro V2 hV
              have hS : St w V2 gl #[.slice L.se.a n1 L.se.c, .slice L.po.a n2 L.po.c, .slice L.sg.a n3 L.sg.c, .slice L.rt.a n4 L.rt.c] L (some g9) (some V1.heap.size) none none := by rw [hV]; first | exact HS1.out.alloc10 | exact HSI.out.alloc10.drew
              obtain ⟨g10, hg⟩ : ∃ g, g = V1.heap.size := ⟨_, rfl⟩
              rw [← hg] at hS ⊢
              clear hg hV
              have HS2 := Lib.hid hS
              clear hS
              refine hK.out _ _ (HSC.out _ _ _ _ _ HS2.out) (fun hH => ?_)
              clear hK K
              refine wpAnyH_re 4 #[true, false, true, false, true, true, false, false] (by kernel_rfl) (by kernel_rfl) ?_
              refine wpAnyH_ready (rs := [1]) (by kernel_rfl) (by simp) (AllReadyH.cons (o := ⟨some 53, _, _, _, _, _⟩) rfl (fun K hK => ?_) AllReadyH.nil)
              go_simp
              refine (K4.out HM.out _ HS2.out.below).mono ?_
              rintro e V3 ⟨M1, rfl, hx, hs, hb⟩
              have HS3 := Lib.hid (HS2.out.call1 hx hs hb)
              refine hK.out _ _ (HSC.out _ _ _ _ _ HS3.out) (fun hH => ?_)
              clear hK K hx hs hb
              refine wpAnyH_re 3 #[true, true, true, false, true, true, false, false] (by kernel_rfl) (by kernel_rfl) ?_
              refine wpAnyH_ready (rs := [3]) (by kernel_rfl) (by simp) (AllReadyH.cons (o := ⟨some 55, _, _, _, _, _⟩) rfl (fun K hK => ?_) AllReadyH.nil)
              go_simp
              refine (K4.out HM.out _ HS3.out.below).mono ?_
              rintro e V4 ⟨M2, rfl, hx, hs, hb⟩
              have HS4 := Lib.hid (HS3.out.call2 hx hs hb)
              refine hK.out _ _ (HSC.out _ _ _ _ _ HS4.out) (fun hH => ?_)
              clear hK K hx hs hb
              refine wpAnyH_re 2 #[true, true, true, true, true, true, false, false] (by kernel_rfl) (by kernel_rfl) ?_
              refine wpAnyH_ready (rs := [6]) (by kernel_rfl) (by simp) (AllReadyH.cons (o := ⟨none, _, _, _, _, _⟩) rfl (fun K hK => ?_) AllReadyH.nil)
              have q := (HS4.out.b9 g9 rfl).1
              unfold ZO at q
              have c0 := blk_cell q 0 _ rfl
              have c1 := blk_cell q 1 _ rfl
              have c2 := blk_cell q 2 _ rfl
              have c3 := blk_cell q 3 _ rfl
              have f0 := blk_free q 0
              have f1 := blk_free q 1
              have f2 := blk_free q 2
              have f3 := blk_free q 3
              go_simp
              refine name_K ?_
              intro VA hV
              have ho : Only g9 V4 VA := by rw [hV]; exact ((((Only.refl g9 V4).setCell rfl _).setCell rfl _).setCell rfl _).setCell rfl _
              have hq : VA.heap[g9]? = some (.cells #[.slice M1.se.a n1 M1.se.c, .slice M1.po.a n2 M1.po.c, .slice M1.sg.a n3 M1.sg.c, .slice M1.rt.a n4 M1.rt.c] 39) := by rw [hV]; exact blk_set (blk_set (blk_set (blk_set q 0 _) 1 _) 2 _) 3 _
              have HO1 := Lib.hid ho
              have HQ1 := Lib.hid hq
              have hl := ho.keep (k := gl) (by have := (HS4.out.b9 g9 rfl).2; omega) HS4.out.lay
              have HLA := Lib.hid hl
              clear c0 c1 c2 c3 f0 f1 f2 f3 q ho hq hV
              refine hK.out _ _ ⟨blk_cell hl 0 _ rfl, blk_cell hl 1 _ rfl, blk_cell hl 2 _ rfl, blk_cell hl 3 _ rfl⟩ (fun hH => ?_)
              clear hK K hl
              refine wpAnyH_re 1 #[true, true, true, true, true, true, true, false] (by kernel_rfl) (by kernel_rfl) ?_
              refine wpAnyH_ready (rs := [7]) (by kernel_rfl) (by simp) (AllReadyH.cons (o := ⟨none, _, _, _, _, _⟩) rfl (fun K hK => ?_) AllReadyH.nil)
              have q := HO1.out.keep (k := g10) (by have := HS4.out.ne g9 rfl; intro e; exact this (by rw [e])) (HS4.out.b10 g10 rfl).1
              unfold ZO at q
              have c0 := blk_cell q 0 _ rfl
              have c1 := blk_cell q 1 _ rfl
              have c2 := blk_cell q 2 _ rfl
              have c3 := blk_cell q 3 _ rfl
              have f0 := blk_free q 0
              have f1 := blk_free q 1
              have f2 := blk_free q 2
              have f3 := blk_free q 3
              go_simp
              refine name_K ?_
              intro VB hV
              have ho : Only g10 VA VB := by rw [hV]; exact ((((Only.refl g10 VA).setCell rfl _).setCell rfl _).setCell rfl _).setCell rfl _
              have hq : VB.heap[g10]? = some (.cells #[.slice M2.se.a n1 M2.se.c, .slice M2.po.a n2 M2.po.c, .slice M2.sg.a n3 M2.sg.c, .slice M2.rt.a n4 M2.rt.c] 39) := by rw [hV]; exact blk_set (blk_set (blk_set (blk_set q 0 _) 1 _) 2 _) 3 _
              have HTB := Lib.hid (HS4.out.stores (by rw [HGL.out]; exact Nat.le_refl _) HO1.out ho HQ1.out hq)
              have hl := HTB.out.lay
              clear c0 c1 c2 c3 f0 f1 f2 f3 q ho hq hV
              refine hK.out _ _ ⟨blk_cell hl 0 _ rfl, blk_cell hl 1 _ rfl, blk_cell hl 2 _ rfl, blk_cell hl 3 _ rfl⟩ (fun hH => ?_)
              clear hK K hl
              refine wpAnyH_done (by kernel_rfl) ?_ _
              go_wp2_with fail
              go_meet
              exact ⟨g9, g10, M1, M2, rfl, rfl, HTB.out⟩
          · go_simp
            refine name_K ?_
            intro V1 hV
            have hS : St w V1 gl #[.slice L.se.a n1 L.se.c, .slice L.po.a n2 L.po.c, .slice L.sg.a n3 L.sg.c, .slice L.rt.a n4 L.rt.c] L none (some wr.heap.size) none none := by rw [hV]; first | exact HS0.out.alloc10 | exact HSI.out.alloc10.drew
            obtain ⟨g10, hg⟩ : ∃ g, g = wr.heap.size := ⟨_, rfl⟩
            rw [← hg] at hS ⊢
            clear hg hV
            have HS1 := Lib.hid hS
            clear hS
            refine hK.out _ _ (HSC.out _ _ _ _ _ HS1.out) (fun hH => ?_)
            clear hK K
            refine wpAnyH_re 5 #[true, false, true, false, false, true, false, false] (by kernel_rfl) (by kernel_rfl) ?_
            refine wpAnyH_ready (rs := [1, 4]) (by kernel_rfl) (by simp) (AllReadyH.cons (o := ⟨some 53, _, _, _, _, _⟩) rfl (fun K hK => ?_) (AllReadyH.cons (o := ⟨some 9, _, _, _, _, _⟩) rfl (fun K hK => ?_) AllReadyH.nil))
            · go_simp
              refine (K4.out HM.out _ HS1.out.below).mono ?_
              rintro e V2 ⟨M1, rfl, hx, hs, hb⟩
              have HS2 := Lib.hid (HS1.out.call1 hx hs hb)
              refine hK.out _ _ (HSC.out _ _ _ _ _ HS2.out) (fun hH => ?_)
              clear hK K hx hs hb
              refine wpAnyH_re 4 #[true, true, true, false, false, true, false, false] (by kernel_rfl) (by kernel_rfl) ?_
              refine wpAnyH_ready (rs := [3, 4]) (by kernel_rfl) (by simp) (AllReadyH.cons (o := ⟨some 55, _, _, _, _, _⟩) rfl (fun K hK => ?_) (AllReadyH.cons (o := ⟨some 9, _, _, _, _, _⟩) rfl (fun K hK => ?_) AllReadyH.nil))
              · go_simp
                refine (K4.out HM.out _ HS2.out.below).mono ?_
                rintro e V3 ⟨M2, rfl, hx, hs, hb⟩
                have HS3 := Lib.hid (HS2.out.call2 hx hs hb)
                refine hK.out _ _ (HSC.out _ _ _ _ _ HS3.out) (fun hH => ?_)
                clear hK K hx hs hb
                refine wpAnyH_re 3 #[true, true, true, true, false, true, false, false] (by kernel_rfl) (by kernel_rfl) ?_
                refine wpAnyH_ready (rs := [4]) (by kernel_rfl) (by simp) (AllReadyH.cons (o := ⟨some 9, _, _, _, _, _⟩) rfl (fun K hK => ?_) AllReadyH.nil)
                go_simp
                refine name_K ?_
                intro V4 hV
                have hS : St w V4 gl #[.slice L.se.a n1 L.se.c, .slice L.po.a n2 L.po.c, .slice L.sg.a n3 L.sg.c, .slice L.rt.a n4 L.rt.c] L (some V3.heap.size) (some g10) (some M1) (some M2) := by rw [hV]; first | exact HS3.out.alloc9 | exact HSI.out.alloc9.drew
                obtain ⟨g9, hg⟩ : ∃ g, g = V3.heap.size := ⟨_, rfl⟩
                rw [← hg] at hS ⊢
                clear hg hV
                have HS4 := Lib.hid hS
                clear hS
                refine hK.out _ _ (HSC.out _ _ _ _ _ HS4.out) (fun hH => ?_)
                clear hK K
                refine wpAnyH_re 2 #[true, true, true, true, true, true, false, false] (by kernel_rfl) (by kernel_rfl) ?_
                refine wpAnyH_ready (rs := [6]) (by kernel_rfl) (by simp) (AllReadyH.cons (o := ⟨none, _, _, _, _, _⟩) rfl (fun K hK => ?_) AllReadyH.nil)
                have q := (HS4.out.b9 g9 rfl).1
                unfold ZO at q
                have c0 := blk_cell q 0 _ rfl
                have c1 := blk_cell q 1 _ rfl
                have c2 := blk_cell q 2 _ rfl
                have c3 := blk_cell q 3 _ rfl
                have f0 := blk_free q 0
                have f1 := blk_free q 1
                have f2 := blk_free q 2
                have f3 := blk_free q 3
                go_simp
                refine name_K ?_
                intro VA hV
                have ho : Only g9 V4 VA := by rw [hV]; exact ((((Only.refl g9 V4).setCell rfl _).setCell rfl _).setCell rfl _).setCell rfl _
                have hq : VA.heap[g9]? = some (.cells #[.slice M1.se.a n1 M1.se.c, .slice M1.po.a n2 M1.po.c, .slice M1.sg.a n3 M1.sg.c, .slice M1.rt.a n4 M1.rt.c] 39) := by rw [hV]; exact blk_set (blk_set (blk_set (blk_set q 0 _) 1 _) 2 _) 3 _
                have HO1 := Lib.hid ho
                have HQ1 := Lib.hid hq
                have hl := ho.keep (k := gl) (by have := (HS4.out.b9 g9 rfl).2; omega) HS4.out.lay
                have HLA := Lib.hid hl
                clear c0 c1 c2 c3 f0 f1 f2 f3 q ho hq hV
                refine hK.out _ _ ⟨blk_cell hl 0 _ rfl, blk_cell hl 1 _ rfl, blk_cell hl 2 _ rfl, blk_cell hl 3 _ rfl⟩ (fun hH => ?_)
                clear hK K hl
                refine wpAnyH_re 1 #[true, true, true, true, true, true, true, false] (by kernel_rfl) (by kernel_rfl) ?_
                refine wpAnyH_ready (rs := [7]) (by kernel_rfl) (by simp) (AllReadyH.cons (o := ⟨none, _, _, _, _, _⟩) rfl (fun K hK => ?_) AllReadyH.nil)
                have q := HO1.out.keep (k := g10) (by have := HS4.out.ne g9 rfl; intro e; exact this (by rw [e])) (HS4.out.b10 g10 rfl).1
                unfold ZO at q
                have c0 := blk_cell q 0 _ rfl
                have c1 := blk_cell q 1 _ rfl
                have c2 := blk_cell q 2 _ rfl
                have c3 := blk_cell q 3 _ rfl
                have f0 := blk_free q 0
                have f1 := blk_free q 1
                have f2 := blk_free q 2
                have f3 := blk_free q 3
                go_simp
                refine name_K ?_
                intro VB hV
                have ho : Only g10 VA VB := by rw [hV]; exact ((((Only.refl g10 VA).setCell rfl _).setCell rfl _).setCell rfl _).setCell rfl _
                have hq : VB.heap[g10]? = some (.cells #[.slice M2.se.a n1 M2.se.c, .slice M2.po.a n2 M2.po.c, .slice M2.sg.a n3 M2.sg.c, .slice M2.rt.a n4 M2.rt.c] 39) := by rw [hV]; exact blk_set (blk_set (blk_set (blk_set q 0 _) 1 _) 2 _) 3 _
                have HTB := Lib.hid (HS4.out.stores (by rw [HGL.out]; exact Nat.le_refl _) HO1.out ho HQ1.out hq)
                have hl := HTB.out.lay
                clear c0 c1 c2 c3 f0 f1 f2 f3 q ho hq hV
                refine hK.out _ _ ⟨blk_cell hl 0 _ rfl, blk_cell hl 1 _ rfl, blk_cell hl 2 _ rfl, blk_cell hl 3 _ rfl⟩ (fun hH => ?_)
                clear hK K hl
                refine wpAnyH_done (by kernel_rfl) ?_ _
                go_wp2_with fail
                go_meet
                exact ⟨g9, g10, M1, M2, rfl, rfl, HTB.out⟩
              · go_simp
                refine name_K ?_
                intro V3 hV
                have hS : St w V3 gl #[.slice L.se.a n1 L.se.c, .slice L.po.a n2 L.po.c, .slice L.sg.a n3 L.sg.c, .slice L.rt.a n4 L.rt.c] L (some V2.heap.size) (some g10) (some M1) none := by rw [hV]; first | exact HS2.out.alloc9 | exact HSI.out.alloc9.drew
                obtain ⟨g9, hg⟩ : ∃ g, g = V2.heap.size := ⟨_, rfl⟩
                rw [← hg] at hS ⊢
                clear hg hV
                have HS3 := Lib.hid hS
                clear hS
                refine hK.out _ _ (HSC.out _ _ _ _ _ HS3.out) (fun hH => ?_)
                clear hK K
                refine wpAnyH_re 3 #[true, true, true, false, true, true, false, false] (by kernel_rfl) (by kernel_rfl) ?_
                refine wpAnyH_ready (rs := [3]) (by kernel_rfl) (by simp) (AllReadyH.cons (o := ⟨some 55, _, _, _, _, _⟩) rfl (fun K hK => ?_) AllReadyH.nil)
                go_simp
                refine (K4.out HM.out _ HS3.out.below).mono ?_
                rintro e V4 ⟨M2, rfl, hx, hs, hb⟩
                have HS4 := Lib.hid (HS3.out.call2 hx hs hb)
                refine hK.out _ _ (HSC.out _ _ _ _ _ HS4.out) (fun hH => ?_)
                clear hK K hx hs hb
                refine wpAnyH_re 2 #[true, true, true, true, true, true, false, false] (by kernel_rfl) (by kernel_rfl) ?_
                refine wpAnyH_ready (rs := [6]) (by kernel_rfl) (by simp) (AllReadyH.cons (o := ⟨none, _, _, _, _, _⟩) rfl (fun K hK => ?_) AllReadyH.nil)
                have q := (HS4.out.b9 g9 rfl).1
                unfold ZO at q
                have c0 := blk_cell q 0 _ rfl
                have c1 := blk_cell q 1 _ rfl
                have c2 := blk_cell q 2 _ rfl
                have c3 := blk_cell q 3 _ rfl
                have f0 := blk_free q 0
                have f1 := blk_free q 1
                have f2 := blk_free q 2
                have f3 := blk_free q 3
                go_simp
                refine name_K ?_
                intro VA hV
                have ho : Only g9 V4 VA := by rw [hV]; exact ((((Only.refl g9 V4).setCell rfl _).setCell rfl _).setCell rfl _).setCell rfl _
                have hq : VA.heap[g9]? = some (.cells #[.slice M1.se.a n1 M1.se.c, .slice M1.po.a n2 M1.po.c, .slice M1.sg.a n3 M1.sg.c, .slice M1.rt.a n4 M1.rt.c] 39) := by rw [hV]; exact blk_set (blk_set (blk_set (blk_set q 0 _) 1 _) 2 _) 3 _
                have HO1 := Lib.hid ho
                have HQ1 := Lib.hid hq
                have hl := ho.keep (k := gl) (by have := (HS4.out.b9 g9 rfl).2; omega) HS4.out.lay
                have HLA := Lib.hid hl
                clear c0 c1 c2 c3 f0 f1 f2 f3 q ho hq hV
                refine hK.out _ _ ⟨blk_cell hl 0 _ rfl, blk_cell hl 1 _ rfl, blk_cell hl 2 _ rfl, blk_cell hl 3 _ rfl⟩ (fun hH => ?_)
                clear hK K hl
                refine wpAnyH_re 1 #[true, true, true, true, true, true, true, false] (by kernel_rfl) (by kernel_rfl) ?_
                refine wpAnyH_ready (rs := [7]) (by kernel_rfl) (by simp) (AllReadyH.cons (o := ⟨none, _, _, _, _, _⟩) rfl (fun K hK => ?_) AllReadyH.nil)
                have q := HO1.out.keep (k := g10) (by have := HS4.out.ne g9 rfl; intro e; exact this (by rw [e])) (HS4.out.b10 g10 rfl).1
                unfold ZO at q
                have c0 := blk_cell q 0 _ rfl
                have c1 := blk_cell q 1 _ rfl
                have c2 := blk_cell q 2 _ rfl
                have c3 := blk_cell q 3 _ rfl
                have f0 := blk_free q 0
                have f1 := blk_free q 1
                have f2 := blk_free q 2
                have f3 := blk_free q 3
                go_simp
                refine name_K ?_
                intro VB hV
                have ho : Only g10 VA VB := by rw [hV]; exact ((((Only.refl g10 VA).setCell rfl _).setCell rfl _).setCell rfl _).setCell rfl _
                have hq : VB.heap[g10]? = some (.cells #[.slice M2.se.a n1 M2.se.c, .slice M2.po.a n2 M2.po.c, .slice M2.sg.a n3 M2.sg.c, .slice M2.rt.a n4 M2.rt.c] 39) := by rw [hV]; exact blk_set (blk_set (blk_set (blk_set q 0 _) 1 _) 2 _) 3 _
                have HTB := Lib.hid (HS4.out.stores (by rw [HGL.out]; exact Nat.le_refl _) HO1.out ho HQ1.out hq)
                have hl := HTB.out.lay
                clear c0 c1 c2 c3 f0 f1 f2 f3 q ho hq hV
                refine hK.out _ _ ⟨blk_cell hl 0 _ rfl, blk_cell hl 1 _ rfl, blk_cell hl 2 _ rfl, blk_cell hl 3 _ rfl⟩ (fun hH => ?_)
                clear hK K hl
                refine wpAnyH_done (by kernel_rfl) ?_ _
                go_wp2_with fail
                go_meet
                exact ⟨g9, g10, M1, M2, rfl, rfl, HTB.out⟩
            · go_simp
              refine name_K ?_
              intro V2 hV
              have hS : St w V2 gl #[.slice L.se.a n1 L.se.c, .slice L.po.a n2 L.po.c, .slice L.sg.a n3 L.sg.c, .slice L.rt.a n4 L.rt.c] L (some V1.heap.size) (some g10) none none := by rw [hV]; first | exact HS1.out.alloc9 | exact HSI.out.alloc9.drew
              obtain ⟨g9, hg⟩ : ∃ g, g = V1.heap.size := ⟨_, rfl⟩
              rw [← hg] at hS ⊢
              clear hg hV
              have HS2 := Lib.hid hS
              clear hS
              refine hK.out _ _ (HSC.out _ _ _ _ _ HS2.out) (fun hH => ?_)
              clear hK K
              refine wpAnyH_re 4 #[true, false, true, false, true, true, false, false] (by kernel_rfl) (by kernel_rfl) ?_
              refine wpAnyH_ready (rs := [1]) (by kernel_rfl) (by simp) (AllReadyH.cons (o := ⟨some 53, _, _, _, _, _⟩) rfl (fun K hK => ?_) AllReadyH.nil)
              go_simp
              refine (K4.out HM.out _ HS2.out.below).mono ?_
              rintro e V3 ⟨M1, rfl, hx, hs, hb⟩
              have HS3 := Lib.hid (HS2.out.call1 hx hs hb)
              refine hK.out _ _ (HSC.out _ _ _ _ _ HS3.out) (fun hH => ?_)
              clear hK K hx hs hb
              refine wpAnyH_re 3 #[true, true, true, false, true, true, false, false] (by kernel_rfl) (by kernel_rfl) ?_
              refine wpAnyH_ready (rs := [3]) (by kernel_rfl) (by simp) (AllReadyH.cons (o := ⟨some 55, _, _, _, _, _⟩) rfl (fun K hK => ?_) AllReadyH.nil)
              go_simp
              refine (K4.out HM.out _ HS3.out.below).mono ?_
              rintro e V4 ⟨M2, rfl, hx, hs, hb⟩
              have HS4 := Lib.hid (HS3.out.call2 hx hs hb)
              refine hK.out _ _ (HSC.out _ _ _ _ _ HS4.out) (fun hH => ?_)
              clear hK K hx hs hb
              refine wpAnyH_re 2 #[true, true, true, true, true, true, false, false] (by kernel_rfl) (by kernel_rfl) ?_
              refine wpAnyH_ready (rs := [6]) (by kernel_rfl) (by simp) (AllReadyH.cons (o := ⟨none, _, _, _, _, _⟩) rfl (fun K hK => ?_) AllReadyH.nil)
              have q := (HS4.out.b9 g9 rfl).1
              unfold ZO at q
              have c0 := blk_cell q 0 _ rfl
              have c1 := blk_cell q 1 _ rfl
              have c2 := blk_cell q 2 _ rfl
              have c3 := blk_cell q 3 _ rfl
              have f0 := blk_free q 0
              have f1 := blk_free q 1
              have f2 := blk_free q 2
              have f3 := blk_free q 3
              go_simp
              refine name_K ?_
              intro VA hV
              have ho : Only g9 V4 VA := by rw [hV]; exact ((((Only.refl g9 V4).setCell rfl _).setCell rfl _).setCell rfl _).setCell rfl _
              have hq : VA.heap[g9]? = some (.cells #[.slice M1.se.a n1 M1.se.c, .slice M1.po.a n2 M1.po.c, .slice M1.sg.a n3 M1.sg.c, .slice M1.rt.a n4 M1.rt.c] 39) := by rw [hV]; exact blk_set (blk_set (blk_set (blk_set q 0 _) 1 _) 2 _) 3 _
              have HO1 := Lib.hid ho
              have HQ1 := Lib.hid hq
              have hl := ho.keep (k := gl) (by have := (HS4.out.b9 g9 rfl).2; omega) HS4.out.lay
              have HLA := Lib.hid hl
              clear c0 c1 c2 c3 f0 f1 f2 f3 q ho hq hV
              refine hK.out _ _ ⟨blk_cell hl 0 _ rfl, blk_cell hl 1 _ rfl, blk_cell hl 2 _ rfl, blk_cell hl 3 _ rfl⟩ (fun hH => ?_)
              clear hK K hl
              refine wpAnyH_re 1 #[true, true, true, true, true, true, true, false] (by kernel_rfl) (by kernel_rfl) ?_
              refine wpAnyH_ready (rs := [7]) (by kernel_rfl) (by simp) (AllReadyH.cons (o := ⟨none, _, _, _, _, _⟩) rfl (fun K hK => ?_) AllReadyH.nil)
              have q := HO1.out.keep (k := g10) (by have := HS4.out.ne g9 rfl; intro e; exact this (by rw [e])) (HS4.out.b10 g10 rfl).1
              unfold ZO at q
              have c0 := blk_cell q 0 _ rfl
              have c1 := blk_cell q 1 _ rfl
              have c2 := blk_cell q 2 _ rfl
              have c3 := blk_cell q 3 _ rfl
              have f0 := blk_free q 0
              have f1 := blk_free q 1
              have f2 := blk_free q 2
              have f3 := blk_free q 3
              go_simp
              refine name_K ?_
              intro VB hV
              have ho : Only g10 VA VB := by rw [hV]; exact ((((Only.refl g10 VA).setCell rfl _).setCell rfl _).setCell rfl _).setCell rfl _
              have hq : VB.heap[g10]? = some (.cells #[.slice M2.se.a n1 M2.se.c, .slice M2.po.a n2 M2.po.c, .slice M2.sg.a n3 M2.sg.c, .slice M2.rt.a n4 M2.rt.c] 39) := by rw [hV]; exact blk_set (blk_set (blk_set (blk_set q 0 _) 1 _) 2 _) 3 _
              have HTB := Lib.hid (HS4.out.stores (by rw [HGL.out]; exact Nat.le_refl _) HO1.out ho HQ1.out hq)
              have hl := HTB.out.lay
              clear c0 c1 c2 c3 f0 f1 f2 f3 q ho hq hV
              refine hK.out _ _ ⟨blk_cell hl 0 _ rfl, blk_cell hl 1 _ rfl, blk_cell hl 2 _ rfl, blk_cell hl 3 _ rfl⟩ (fun hH => ?_)
              clear hK K hl
              refine wpAnyH_done (by kernel_rfl) ?_ _
              go_wp2_with fail
              go_meet
              exact ⟨g9, g10, M1, M2, rfl, rfl, HTB.out⟩
        case rest =>
          obtain ⟨g9, g10, M1, M2, rfl, rfl, hTB⟩ := hcut
          have HTB := Lib.hid hTB
          clear hTB HSI HSC HQ HB
          have q9 := HTB.out.b9
          have q10 := HTB.out.b10
          have c9 := blk_cell q9 3 _ rfl
          have c10 := blk_cell q10 3 _ rfl
          have f9 := blk_free q9 3
          have f10 := blk_free q10 3
          have n9 : ¬ g9 = g10 := HTB.out.ne
          have n9' : ¬ g10 = g9 := fun e => HTB.out.ne e.symm
          clear q9 q10
          go_upto_region 16 with fail
          refine name_world05 ?_
          intro WC hWC
          have hcc : TlI w WC gl g9 g10 WC.heap.size #[.slice L.se.a n1 L.se.c, .slice L.po.a n2 L.po.c, .slice L.sg.a n3 L.sg.c, .slice L.rt.a n4 L.rt.c] (fun v => #[.slice M1.se.a n1 M1.se.c, .slice M1.po.a n2 M1.po.c, .slice M1.sg.a n3 M1.sg.c, v]) (fun v => #[.slice M2.se.a n1 M2.se.c, .slice M2.po.a n2 M2.po.c, .slice M2.sg.a n3 M2.sg.c, v]) L M1 M2 (.slice none 0 0) (.slice none 0 0) 0 0 [] [] := by
            have hk := HTB.out
            have o9 : Only g9 wc (wc.setCell ⟨g9, 3, none⟩ (.slice none 0 0)) := (Only.refl g9 wc).setCell rfl _
            have o10 : Only g10 (wc.setCell ⟨g9, 3, none⟩ (.slice none 0 0)) WC := by rw [hWC]; exact (Only.refl g10 _).setCell rfl _
            have hw : WX (fun b => b = g9 ∨ b = g10) wc WC := (WX.of_only o9 (.inl rfl)).trans (WX.of_only o10 (.inr rfl))
            have wk : ∀ b, b < WC.heap.size → XT g9 g10 (.slice none 0 0) (.slice none 0 0) b → (b = g9 ∨ b = g10) := fun b _ e => by
              rcases e with e | e | e | e
              · exact .inl e
              · exact .inr e
              · cases e
              · cases e
            have a9 := blk_set hk.b9 3 (.slice none 0 0)
            have a10 := blk_set (o9.keep (fun e => hk.ne e.symm) hk.b10) 3 (.slice none 0 0)
            rw [← hWC] at a10
            have s9 := blk_lt hk.b9
            have s10 := blk_lt hk.b10
            have hsz := hw.size
            have m1 := (hk.m1.step hw).weak wk
            have m2 := (hk.m2.step hw).weak wk
            have l9 := hk.l9
            have l10 := hk.l10
            have hgl := HGL.out
            exact ⟨o10.keep (by omega) (o9.keep (by omega) hk.lay), hw.below hk.below (fun b e => by omega), o10.keep hk.ne a9, a10, hk.l9, hk.l10, by omega, by omega, hk.ne, Nat.le_refl _, World.ownsRow_nil _ _ _ _, World.ownsRow_nil _ _ _ _, (fun b e => by cases e), ⟨m1.se, m1.po, m1.sg⟩, ⟨m2.se, m2.po, m2.sg⟩, (fun r hr => by cases hr), List.Sublist.refl _, rfl, rfl, (fun r hr => by cases hr)⟩
          clear hWC c9 c10 f9 f10
          obtain ⟨lo, hlo⟩ : ∃ s, WC.heap.size = s := ⟨_, rfl⟩
          rw [hlo] at hcc
          clear hlo
          have l3 := blk_cell hcc.lay 3 _ rfl
          have HS1 := Lib.hid HTB.out.s1
          have HS2 := Lib.hid HTB.out.s2
          have HC := Lib.hid hcc
          obtain ⟨i6, hi, hz0, hz1, hz2⟩ := info_parts info_rt
          have HI6 := Lib.hid (And.intro hi (And.intro hz0 (And.intro hz1 hz2)))
          obtain ⟨i4, hi, hz0, hz1, hz2⟩ := info_parts info_int
          have HI4 := Lib.hid (And.intro hi (And.intro hz0 (And.intro hz1 hz2)))
          have HM64 : Hid (n4 ≤ 64) := Lib.hid (by rw [← HN.out.2.2.2]; exact (may_sizes HM.out).2.2.2)
          clear hcc HTB hi hz0 hz1 hz2 n9 n9'
          go_wp2_with fail
          refine (pick_any n n4 WC).mono ?_
          rintro e w5 ⟨at_, rfl, rfl⟩
          clear l3
          go_wp2_with fail
          go_loopg [12, 13, 14, 15] n4 (fun g i _ _ _ wr => ∃ (k : Nat) (v1 v2 : Value) (rs1 rs2 : List Rt), k + g = n4 ∧ i = .int .i64 (k : Int) ∧ TlI w wr gl g9 g10 lo #[.slice L.se.a n1 L.se.c, .slice L.po.a n2 L.po.c, .slice L.sg.a n3 L.sg.c, .slice L.rt.a n4 L.rt.c] (fun v => #[.slice M1.se.a n1 M1.se.c, .slice M1.po.a n2 M1.po.c, .slice M1.sg.a n3 M1.sg.c, v]) (fun v => #[.slice M2.se.a n1 M2.se.c, .slice M2.po.a n2 M2.po.c, .slice M2.sg.a n3 M2.sg.c, v]) L M1 M2 v1 v2 k k rs1 rs2)
          case atStart => exact ⟨0, _, _, [], [], by omega, rfl, HC.out⟩
          case round =>
            obtain ⟨k, v1, v2, rs1, rs2, hk, rfl, hI⟩ := hrel
            clear HC
            have HC := Lib.hid hI
            have HK := Lib.hid hk
            have l3 := blk_cell hI.lay 3 _ rfl
            by_cases hlt : k < n4
            · have HLT := Lib.hid hlt
              have d1 : (0 : Int) ≤ k := by omega
              have d2 : (k : Int) < n4 := by omega
              have e0 : wrap64 ((k : Int) + 1) = (k : Int) + 1 := by have := HM64.out; unfold wrap64; omega
              have E0 := Lib.hid e0
              have D2 := Lib.hid d2
              clear hk hI hlt
              go_upto_if 72 with (fail)
              go_cut [72, 73, 74, 75, 76, 77, 78, 79, 80, 81, 82] (fun _s72 _s73 _s74 _s75 _s76 _s77 _s78 _s79 _s80 _s81 _s82 wx => ∃ (u1 : Value) (qs1 : List Rt), TlI w wx gl g9 g10 lo #[.slice L.se.a n1 L.se.c, .slice L.po.a n2 L.po.c, .slice L.sg.a n3 L.sg.c, .slice L.rt.a n4 L.rt.c] (fun v => #[.slice M1.se.a n1 M1.se.c, .slice M1.po.a n2 M1.po.c, .slice M1.sg.a n3 M1.sg.c, v]) (fun v => #[.slice M2.se.a n1 M2.se.c, .slice M2.po.a n2 M2.po.c, .slice M2.sg.a n3 M2.sg.c, v]) L M1 M2 u1 v2 (k + 1) k qs1 rs2)
              case first =>
                by_cases hkz : (k : Int) = at_
                · go_wp2_with fail
                  go_meet
                  exact ⟨v1, rs1, HC.out.skip1⟩
                · obtain ⟨y, hy⟩ : ∃ y, L.rt.l[k]? = some y := ⟨_, List.getElem?_eq_getElem (by rw [HN.out.2.2.2]; exact HLT.out)⟩
                  have HY := Lib.hid hy
                  rcases HA.out.rt.row.below HC.out.below with hnil | ⟨xb, off, hxb, hc⟩
                  · rw [hnil] at hy; simp at hy
                  have z0 := hc k _ hy 0 _ rfl
                  have z1 := hc k _ hy 1 _ rfl
                  have z2 := hc k _ hy 2 _ rfl
                  have z3 := hc k _ hy 3 _ rfl
                  have z4 := hc k _ hy 4 _ rfl
                  have z5 := hc k _ hy 5 _ rfl
                  rw [Nat.add_zero] at z0
                  obtain ⟨m1, hm1⟩ : ∃ n, y.pa.l.length = n := ⟨_, rfl⟩
                  obtain ⟨m2, hm2⟩ : ∃ n, y.po.l.length = n := ⟨_, rfl⟩
                  obtain ⟨m3, hm3⟩ : ∃ n, y.ov.l.length = n := ⟨_, rfl⟩
                  obtain ⟨m4, hm4⟩ : ∃ n, y.fl.l.length = n := ⟨_, rfl⟩
                  rw [slv hm1] at z2
                  rw [slv hm2] at z3
                  rw [slv hm3] at z4
                  rw [slv hm4] at z5
                  have HMV := Lib.hid (And.intro (slv hm1) (And.intro (slv hm2) (And.intro (slv hm3) (slv hm4))))
                  have HXB := Lib.hid hxb
                  clear hc hy hm1 hm2 hm3 hm4 hxb
                  have h9 := blk_cell HC.out.b9 3 _ rfl
                  go_upto_region 21 with fail
                  refine wp_region_any (by kernel_rfl) ?_
                  change wpAny _ _ _ _ _ _ _ (World.drew _)
                  refine wpAny_take (i := 0) (oi := ⟨some 73, _, _, _, _, _⟩) (v := .pointer (some ⟨g9, 3, none⟩)) rfl (by kernel_rfl) (by kernel_rfl) (by kernel_rfl) (fun _ _ _ h => h) (Or.inl ⟨by kernel_rfl, fun w => by go_simp⟩) ?_
                  simp only [Act.put, List.setIfInBounds_toArray, List.set_cons_zero, List.set_cons_succ]
                  refine wpAny_take (i := 2) (oi := ⟨some 75, _, _, _, _, _⟩) (v := .pointer (some ⟨gl, 3, none⟩)) rfl (by kernel_rfl) (by kernel_rfl) (by kernel_rfl) (fun _ _ _ h => h) (Or.inl ⟨by kernel_rfl, fun w => by go_simp⟩) ?_
                  simp only [Act.put, List.setIfInBounds_toArray, List.set_cons_zero, List.set_cons_succ]
                  refine wpAny_take (i := 4) (oi := ⟨some 77, _, _, _, _, _⟩) (v := .int .i64 (k : Int)) rfl (by kernel_rfl) (by kernel_rfl) (by kernel_rfl) (fun _ _ _ h => h) (Or.inl ⟨by kernel_rfl, fun w => by go_simp⟩) ?_
                  simp only [Act.put, List.setIfInBounds_toArray, List.set_cons_zero, List.set_cons_succ]
                  refine wpAny_takeU (i := 1) (oi := ⟨some 74, _, _, _, _, _⟩) (v := v1) (fun w' => w'.cell? ⟨g9, 3, none⟩ = some v1) rfl (by kernel_rfl) (by kernel_rfl) (by kernel_rfl) (fun _ _ _ h => h) (Or.inl ⟨by kernel_rfl, fun w hS => by go_simp⟩) h9 ?_
                  simp only [Act.put, List.setIfInBounds_toArray, List.set_cons_zero, List.set_cons_succ]
                  refine wpAnyU_one (j := 3) (o := ⟨some 76, _, _, _, _, _⟩) (by kernel_rfl) rfl rfl (fun K hK => ?_)
                  go_simp
                  refine hK _ _ (.inr h9) ?_
                  clear hK K
                  refine wpAnyU_one (j := 5) (o := ⟨some 78, _, _, _, _, _⟩) (by kernel_rfl) rfl rfl (fun K hK => ?_)
                  rw [HXB.out]
                  go_simp
                  refine hK _ _ (.inr h9) ?_
                  clear hK K
                  refine wpAnyU_one (j := 6) (o := ⟨some 79, _, _, _, _, _⟩) (by kernel_rfl) rfl rfl (fun K hK => ?_)
                  go_simp
                  refine hK _ _ (.inr h9) ?_
                  clear hK K
                  refine wpAnyU_one (j := 7) (o := ⟨some 80, _, _, _, _, _⟩) (by kernel_rfl) rfl rfl (fun K hK => ?_)
                  go_simp
                  refine name_K ?_
                  intro WB hWB
                  have hbB : Below wr.heap.size wr WB := by rw [hWB]; first | exact below1 _ _ | exact (below1 _ _).drew | exact (Below.refl _ _).drew.trans (below1 _ _)
                  have hrow : WB.heap[wr.heap.size]? = some (.cells #[.string y.nm, .int .i64 y.sg, .slice y.pa.a m1 y.pa.c, .slice y.po.a m2 y.po.c, .slice y.ov.a m3 y.ov.c, .slice y.fl.a m4 y.fl.c] 25) := by rw [hWB]; first | exact alloc1 wr _ (Below.refl _ _) | exact alloc1 wr _ (Below.refl _ _).drew
                  have HSRC : Hid (SrcAt WB (some ⟨wr.heap.size, 0, none⟩) 1 ([y].flatMap rtC)) := Lib.hid (src_blk hrow (by
                    obtain ⟨g1, g2, g3, g4⟩ := HMV.out
                    show [_, _, _, _, _, _] = [Value.string y.nm, .int .i64 y.sg, y.pa.v, y.po.v, y.ov.v, y.fl.v]
                    rw [g1, g2, g3, g4]) (by
                    intro u hu
                    obtain ⟨c, _, hc⟩ := List.mem_flatMap.1 hu
                    exact rt_one c u hc))
                  have HBB := Lib.hid hbB
                  have h9 := cell_later hbB h9
                  have HOWN := Lib.hid (own_below hbB HC.out.own1)
                  have HLB : Hid (lo ≤ WB.heap.size ∧ rs1.length ≤ 64) := Lib.hid ⟨Nat.le_trans HC.out.big hbB.size, by have h1 := HC.out.sub.length_le; rw [List.length_take] at h1; have := HM64.out; have := HLT.out; omega⟩
                  clear hWB hbB hrow z0 z1 z2 z3 z4 z5
                  refine hK _ _ (.inr h9) ?_
                  clear hK K
                  refine wpAnyU_one (j := 8) (o := ⟨some 81, _, _, _, _, _⟩) (by kernel_rfl) rfl rfl (fun K hK => ?_)
                  refine wp_append_src3 (.tmp 74) (.tmp 80) 37 rfl lo 25 i6 (.agg #[.string ⟨#[]⟩, .int .i64 0, .slice none 0 0, .slice none 0 0, .slice none 0 0, .slice none 0 0]) 6 120 Try.underlying37 HI6.out.1 HI6.out.2.1 HI6.out.2.2.1 HI6.out.2.2.2 rfl (by decide) v1 rs1.length (rs1.flatMap rtC) (by go_simp) HOWN.out (some ⟨wr.heap.size, 0, none⟩) 1 1 ([y].flatMap rtC) (by go_simp) rfl HSRC.out (by have := HLB.out; unfold maxLen; omega) (by have := HLB.out; omega) HLB.out.1 ?_
                  intro v9 W9 hown9 hg9 hn9
                  rw [← List.flatMap_append] at hown9
                  obtain ⟨ra, rcap, hv9⟩ := own_shape hown9
                  subst hv9
                  have q9 := WX.keep (X := fun b => v1.ownBlock = some b) (WX.of_grown hg9 (fun _ h => h)) (fun h => by have := (HC.out.own1.lt g9 h).1; have := HC.out.o9; omega) (blk_keep HBB.out HC.out.b9)
                  have c9 := blk_cell q9 3 _ rfl
                  have f9 := blk_free q9 3
                  have HO9 := Lib.hid hown9
                  have HG9 := Lib.hid hg9
                  have HN9 := Lib.hid hn9
                  have HQ9 := Lib.hid q9
                  clear hown9 hg9 hn9 q9
                  refine hK _ _ (.inl (by kernel_rfl)) ?_
                  clear hK K
                  refine wpAnyU_one (j := 9) (o := ⟨some 82, _, _, _, _, _⟩) (by kernel_rfl) rfl rfl (fun K hK => ?_)
                  go_simp
                  refine hK _ _ (by first | exact .inl (by kernel_rfl) | exact .inr c9) ?_
                  clear hK K
                  refine wpAnyU_one (j := 10) (o := ⟨none, _, _, _, _, _⟩) (by kernel_rfl) rfl rfl (fun K hK => ?_)
                  go_simp
                  refine name_K ?_
                  intro WE hWE
                  have ho : Only g9 W9 WE := by rw [hWE]; exact (Only.refl g9 W9).setCell rfl _
                  have hq : WE.heap[g9]? = some (.cells ((fun v => #[.slice M1.se.a n1 M1.se.c, .slice M1.po.a n2 M1.po.c, .slice M1.sg.a n3 M1.sg.c, v]) (.slice ra (rs1.length + 1) rcap)) 39) := by rw [hWE]; exact blk_set HQ9.out 3 _
                  have HNEW := Lib.hid (HC.out.push1 (by rw [HGL.out]; exact Nat.le_refl _) HBB.out HG9.out HN9.out HO9.out ho hq HY.out)
                  refine hK _ _ (.inl (by kernel_rfl)) ?_
                  clear hK K ho hq hWE c9 f9 h9
                  refine wpAnyU_done (by kernel_rfl) ?_ _
                  rw [← HXB.out]
                  go_wp2_with fail
                  go_meet
                  exact ⟨_, _, HNEW.out⟩
              case rest =>
                obtain ⟨u1, qs1, hI2⟩ := hcut
                clear HC l3 e0 d2
                have HC := Lib.hid hI2
                have l3 := blk_cell hI2.lay 3 _ rfl
                clear hI2
                obtain ⟨j, hj⟩ : ∃ j, n4 = k + 1 + j := ⟨n4 - (k + 1), by have := HLT.out; omega⟩
                have HJ := Lib.hid hj
                have hjn : j < n4 := by omega
                obtain ⟨y, hy⟩ : ∃ y, L.rt.l[j]? = some y := ⟨_, List.getElem?_eq_getElem (by rw [HN.out.2.2.2]; exact hjn)⟩
                have HYR : Hid (L.rt.l.reverse[k]? = some y) := Lib.hid (by
                  rw [List.getElem?_reverse (by rw [HN.out.2.2.2]; exact HLT.out), HN.out.2.2.2, show n4 - 1 - k = j by omega]
                  exact hy)
                have hyr := HA.out.rn y (List.mem_of_getElem? hy)
                rcases HA.out.rt.row.below HC.out.below with hnil | ⟨xb, off, hxb, hc⟩
                · rw [hnil] at hy; simp at hy
                have z0 := hc j _ hy 0 _ rfl
                have z1 := hc j _ hy 1 _ rfl
                have z2 := hc j _ hy 2 _ rfl
                have z3 := hc j _ hy 3 _ rfl
                have z4 := hc j _ hy 4 _ rfl
                have z5 := hc j _ hy 5 _ rfl
                rw [Nat.add_zero] at z0
                obtain ⟨m1, hm1⟩ : ∃ n, y.pa.l.length = n := ⟨_, rfl⟩
                obtain ⟨m2, hm2⟩ : ∃ n, y.po.l.length = n := ⟨_, rfl⟩
                obtain ⟨m3, hm3⟩ : ∃ n, y.ov.l.length = n := ⟨_, rfl⟩
                obtain ⟨m4, hm4⟩ : ∃ n, y.fl.l.length = n := ⟨_, rfl⟩
                rw [slv hm1] at z2
                rw [slv hm2] at z3
                rw [slv hm3] at z4
                rw [slv hm4] at z5
                have HMV := Lib.hid (And.intro (slv hm2) (And.intro (slv hm3) (slv hm4)))
                have HM1 := Lib.hid hm1
                have HM16 : Hid (m1 ≤ 16) := Lib.hid (by rw [← hm1]; exact (mayS_rt HM.out y (List.mem_of_getElem? hy)).pa)
                have HYR2 := Lib.hid hyr
                have d3 : (0 : Int) ≤ (j : Int) := by omega
                have d4 : (j : Int) < (n4 : Int) := by omega
                have W1 : Hid (wrap64 ((n4 : Int) - 1) = (n4 : Int) - 1) := Lib.hid (by have := HM64.out; unfold wrap64; omega)
                have W2 : Hid (wrap64 ((n4 : Int) - 1 - (k : Int)) = (j : Int)) := Lib.hid (by have := HM64.out; unfold wrap64; omega)
                have W3 : Hid (wrap64 ((m1 : Int) - 1) = (m1 : Int) - 1) := Lib.hid (by have := HM16.out; unfold wrap64; omega)
                have w1 := W1.out
                have w2 := W2.out
                have w3 := W3.out
                have HXB := Lib.hid hxb
                rw [hxb] at l3 ⊢
                clear hc hy hm1 hm2 hm3 hm4 hxb hj hjn hyr d1
                go_upto_region 25 with fail
                rw [← HXB.out]
                clear z0 z1 z2 z3 z4 z5 w1 w2 w3 d3 d4 l3
                refine name_world05 ?_
                intro WR hWR
                have hb : Below wc.heap.size wc WR := by rw [hWR]; exact below1 _ _
                have hqr : WR.heap[wc.heap.size]? = some (.cells #[.string y.nm, .int .i64 y.sg, .slice y.pa.a m1 y.pa.c, .slice y.po.a m2 y.po.c, .slice y.ov.a m3 y.ov.c, .slice y.fl.a m4 y.fl.c] 25) := by rw [hWR]; exact alloc1 wc _ (Below.refl _ _)
                obtain ⟨gr, hgr⟩ : ∃ g, g = wc.heap.size := ⟨_, rfl⟩
                rw [← hgr] at hqr ⊢
                have HGR := Lib.hid hgr
                have HQR := Lib.hid hqr
                have HBR := Lib.hid hb
                clear hWR hb hqr hgr
                go_loopg [14, 15] m1 (fun g p i wr => ∃ (q : Nat) (pv : Value) (iv : Int), q + g = m1 ∧ p = pv ∧ i = .int .i64 iv ∧ iv = (m1 : Int) - 1 - (q : Int) ∧ wr.ownsRow WR.heap.size 3 1 pv q ((y.pa.l.reverse.take q).flatMap intC) ∧ Below WR.heap.size WR wr)
                case atStart => exact ⟨0, _, _, by omega, rfl, rfl, by first | (rw [W3.out]; omega) | omega, World.ownsRow_nil _ _ _ _, Below.refl _ _⟩
                case round =>
                  obtain ⟨q, pv, iv, hq, rfl, rfl, hiv, hown, hb⟩ := hrel
                  obtain ⟨wq, hwq⟩ : ∃ W, W = wr := ⟨_, rfl⟩
                  rw [← hwq] at hown hb ⊢
                  clear hwq
                  have HOWN := Lib.hid hown
                  have HB := Lib.hid hb
                  have HQ := Lib.hid hq
                  by_cases hlt : q < m1
                  · obtain ⟨t, ht⟩ : ∃ t, m1 = q + 1 + t := ⟨m1 - (q + 1), by omega⟩
                    have hit : iv = (t : Int) := by omega
                    subst hit
                    obtain ⟨x, hx⟩ : ∃ x, y.pa.l[t]? = some x := ⟨_, List.getElem?_eq_getElem (by rw [HM1.out]; omega)⟩
                    have HXR : Hid (y.pa.l.reverse[q]? = some x) := Lib.hid (by
                      rw [List.getElem?_reverse (by rw [HM1.out]; exact hlt), HM1.out, show m1 - 1 - q = t by omega]
                      exact hx)
                    have r2 := blk_cell (blk_keep hb HQR.out) 2 _ rfl
                    have hbq := below_on HC.out.below (below_on HBR.out hb)
                    rcases HYR2.out.pa.row.below hbq with hnil | ⟨xp, offp, hxp, hcp⟩
                    · rw [hnil] at hx; simp at hx
                    have z0 := hcp t _ hx 0 _ rfl
                    rw [Nat.add_zero, Nat.mul_one] at z0
                    have HXP := Lib.hid hxp
                    have d5 : (0 : Int) ≤ (t : Int) := by omega
                    have d6 : (t : Int) < (m1 : Int) := by omega
                    have hwq := below1 wq (.cells #[.int .i64 x] 3)
                    have w5 : wrap64 ((t : Int) - 1) = (t : Int) - 1 := by have := HM16.out; unfold wrap64; omega
                    have HT := Lib.hid ht
                    have HLQ := Lib.hid hlt
                    have hrow := alloc1 wq (.cells #[.int .i64 x] 3) (Below.refl _ _)
                    have HSRC : Hid (SrcAt (wq.alloc (.cells #[.int .i64 x] 3)) (some ⟨wq.heap.size, 0, none⟩) 1 ([x].flatMap intC)) := Lib.hid (src_blk hrow rfl (by
                      intro u hu
                      obtain ⟨c, _, hc⟩ := List.mem_flatMap.1 hu
                      exact int_one c u hc))
                    have HOW2 := Lib.hid (own_below (below1 wq (.cells #[.int .i64 x] 3)) hown)
                    have HSZ : Hid (WR.heap.size ≤ (wq.alloc (.cells #[.int .i64 x] 3)).heap.size) := Lib.hid (Nat.le_trans hb.size (below1 wq _).size)
                    rw [hxp] at r2 ⊢
                    clear hown hb hq hlt ht hx hbq hxp hcp hrow hiv
                    go_wp2_with (at_builtin;  refine wpList_append_src rfl _ _ 22 rfl WR.heap.size 3 i4 (.int .i64 0) 1 8 Try.underlying22 HI4.out.1 HI4.out.2.1 HI4.out.2.2.1 HI4.out.2.2.2 rfl (by decide) _ q ((y.pa.l.reverse.take q).flatMap intC) rfl HOW2.out (some ⟨wq.heap.size, 0, none⟩) 1 1 ([x].flatMap intC) rfl rfl HSRC.out (by have := HM16.out; have := HLQ.out; unfold maxLen; omega) (by have := HM16.out; have := HLQ.out; omega) HSZ.out ?_; intro v8 W8 hown8 hg8; rw [← List.flatMap_append] at hown8)
                    have hb8 := (below_on HB.out (below1 wq (.cells #[.int .i64 x] 3))).grown hg8 HSZ.out (fun b e => (HOW2.out.lt b e).1)
                    rw [← HXP.out]
                    go_roundg (m1 - (q + 1))
                    case rel => exact ⟨q + 1, v8, (t : Int) - 1, by have := HQ.out; have := HLQ.out; omega, rfl, by first | rfl | go_num, by have := HT.out; omega, by rw [List.take_add_one, HXR.out]; exact hown8, hb8⟩
                    case measure => have := HQ.out; have := HLQ.out; omega
                  · have hqm : q = m1 := by omega
                    have hit : iv = -1 := by omega
                    subst hit
                    subst hqm
                    have hown2 := hown
                    rw [List.take_of_length_le (by rw [List.length_reverse, HM1.out]; exact Nat.le_refl _)] at hown2
                    have hx := HC.out.xlt
                    have hgr := HGR.out
                    have hszr := blk_lt HQR.out
                    obtain ⟨pa, pc, hpv, hsl⟩ := own_slx (X := fun b => XT g9 g10 u1 v2 b ∨ b = gr) int_len (by rw [List.length_reverse, HM1.out]) hown2 (fun b e => by
                      rcases e with e | e
                      · have := (hx b e).2; omega
                      · omega)
                    subst hpv
                    have qr := blk_keep hb HQR.out
                    have c2 := blk_cell qr 2 _ rfl
                    have f2 := blk_free qr 2
                    have HSL := Lib.hid hsl
                    have HQQ := Lib.hid qr
                    clear hown hown2 hq hlt hx hgr hszr hsl qr hiv
                    go_upto_region 29 with fail
                    refine name_world05 ?_
                    intro WS hWS
                    have ho : Only gr wq WS := by rw [hWS]; exact (Only.refl gr wq).setCell rfl _
                    have hqs : WS.heap[gr]? = some (.cells #[.string y.nm, .int .i64 y.sg, .slice pa q pc, .slice y.po.a m2 y.po.c, .slice y.ov.a m3 y.ov.c, .slice y.fl.a m4 y.fl.c] 25) := by rw [hWS]; exact blk_set HQQ.out 2 _
                    have hbs : Below wc.heap.size wc WS := Only.below (below_on HBR.out HB.out) (by rw [HGR.out]; exact Nat.le_refl _) (Nat.le_trans HBR.out.size HB.out.size) ho
                    have hsl2 : SlX 1 intC (XT g9 g10 u1 v2) WS ⟨pa, pc, y.pa.l.reverse⟩ := (HSL.out.step (WX.of_only ho (.inr rfl))).weak (fun b _ e => .inl e)
                    have hbw := below_on HC.out.below hbs
                    have hro := rt_old (X := XT g9 g10 u1 v2) HYR2.out (fun b e => by have := (HC.out.xlt b e).1; have := HGL.out; omega)
                    have hro := hro.step (WX.of_below hbw)
                    have hrx : RtX (XT g9 g10 u1 v2) WS ⟨y.nm, y.sg, ⟨pa, pc, y.pa.l.reverse⟩, y.po, y.ov, y.fl⟩ := ⟨hro.nm, hsl2, hro.po, hro.ov, hro.fl⟩
                    have q10 := blk_keep hbs HC.out.b10
                    have HRX := Lib.hid hrx
                    have HBS := Lib.hid hbs
                    have HQ10 := Lib.hid q10
                    have hrow := alloc1 WS (.cells #[.string y.nm, .int .i64 y.sg, .slice pa q pc, .slice y.po.a m2 y.po.c, .slice y.ov.a m3 y.ov.c, .slice y.fl.a m4 y.fl.c] 25) (Below.refl _ _)
                    obtain ⟨WB, hWB⟩ : ∃ W, W = WS.alloc (.cells #[.string y.nm, .int .i64 y.sg, .slice pa q pc, .slice y.po.a m2 y.po.c, .slice y.ov.a m3 y.ov.c, .slice y.fl.a m4 y.fl.c] 25) := ⟨_, rfl⟩
                    have hsb : Below WS.heap.size WS WB := by rw [hWB]; exact below1 _ _
                    rw [← hWB] at hrow
                    have HWB := Lib.hid hWB
                    have HSRC : Hid (SrcAt WB (some ⟨WS.heap.size, 0, none⟩) 1 ([(⟨y.nm, y.sg, ⟨pa, pc, y.pa.l.reverse⟩, y.po, y.ov, y.fl⟩ : Rt)].flatMap rtC)) := Lib.hid (src_blk hrow (by
                      obtain ⟨g2, g3, g4⟩ := HMV.out
                      show [_, _, _, _, _, _] = [Value.string y.nm, .int .i64 y.sg, Sl.v ⟨pa, pc, y.pa.l.reverse⟩, y.po.v, y.ov.v, y.fl.v]
                      rw [g2, g3, g4, slv2 (n := q) (by rw [List.length_reverse, HM1.out])]) (by
                      intro u hu
                      obtain ⟨c, _, hc⟩ := List.mem_flatMap.1 hu
                      exact rt_one c u hc))
                    have HCB := Lib.hid (below_on hbs hsb)
                    have HOWN2 := Lib.hid (own_below (below_on hbs hsb) HC.out.own2)
                    have HLB : Hid (lo ≤ WB.heap.size ∧ rs2.length ≤ 64) := Lib.hid ⟨Nat.le_trans HC.out.big (Nat.le_trans hbs.size hsb.size), by have := HC.out.len2; have := HM64.out; have := HLT.out; omega⟩
                    have HRX2 := Lib.hid (hrx.step (WX.of_below hsb))
                    have c10 := blk_cell q10 3 _ rfl
                    have c0 := blk_cell hqs 0 _ rfl
                    have c1 := blk_cell hqs 1 _ rfl
                    have c2 := blk_cell hqs 2 _ rfl
                    have c3 := blk_cell hqs 3 _ rfl
                    have c4 := blk_cell hqs 4 _ rfl
                    have c5 := blk_cell hqs 5 _ rfl
                    have HQB := Lib.hid (blk_keep hsb q10)
                    clear hWB hsb hrow hWS ho hqs hbs hsl2 hbw hro hrx q10 f2 hb
                    go_upto_region 19 with (at_builtin; rw [← HWB.out]; refine wpList_append_src3 rfl _ _ 37 rfl lo 25 i6 (.agg #[.string ⟨#[]⟩, .int .i64 0, .slice none 0 0, .slice none 0 0, .slice none 0 0, .slice none 0 0]) 6 120 Try.underlying37 HI6.out.1 HI6.out.2.1 HI6.out.2.2.1 HI6.out.2.2.2 rfl (by decide) v2 rs2.length (rs2.flatMap rtC) rfl HOWN2.out (some ⟨WS.heap.size, 0, none⟩) 1 1 ([(⟨y.nm, y.sg, ⟨pa, pc, y.pa.l.reverse⟩, y.po, y.ov, y.fl⟩ : Rt)].flatMap rtC) rfl rfl HSRC.out (by have := HLB.out; unfold maxLen; omega) (by have := HLB.out; omega) HLB.out.1 ?_; intro v9 W9 hown9 hg9 hn9; rw [← List.flatMap_append] at hown9; obtain ⟨ra, rcap, hv9⟩ := own_shape hown9; subst hv9; have q9 := WX.keep (X := fun b => v2.ownBlock = some b) (WX.of_grown hg9 (fun _ h => h)) (fun h => by have := (HC.out.own2.lt g10 h).1; have := HC.out.o10; omega) HQB.out; have k9 := blk_cell q9 3 _ rfl; have f9 := blk_free q9 3; have HO9 := Lib.hid hown9; have HG9 := Lib.hid hg9; have HN9 := Lib.hid hn9; have HQ9 := Lib.hid q9; clear hown9 hg9 hn9 q9 c10 c0 c1 c2 c3 c4 c5)
                    clear k9 f9
                    refine name_world05 ?_
                    intro WE hWE
                    have ho : Only g10 W9 WE := by rw [hWE]; exact (Only.refl g10 W9).setCell rfl _
                    have hqe : WE.heap[g10]? = some (.cells ((fun v => #[.slice M2.se.a n1 M2.se.c, .slice M2.po.a n2 M2.po.c, .slice M2.sg.a n3 M2.sg.c, v]) (.slice ra (rs2.length + 1) rcap)) 39) := by rw [hWE]; exact blk_set HQ9.out 3 _
                    have HNEW := Lib.hid (HC.out.push2 (by rw [HGL.out]; exact Nat.le_refl _) HCB.out HG9.out HN9.out HO9.out ho hqe HRX2.out HYR.out ⟨rfl, rfl, List.reverse_perm _, rfl, rfl, rfl⟩)
                    clear ho hqe hWE
                    have e0 := E0.out
                    go_wp2_with fail
                    go_roundg (n4 - (k + 1))
                    case rel => exact ⟨k + 1, _, _, _, _, by have := HK.out; have := HLT.out; omega, by go_num, HNEW.out⟩
                    case measure => have := HK.out; have := HLT.out; omega
            · have hkm : k = n4 := by omega
              subst hkm
              obtain ⟨a1, c1, hv1, hl1, hc1⟩ := hI.end1 HA.out HCD.out HS1.out
              obtain ⟨a2, c2, hv2, hl2, hc2⟩ := hI.end2 HA.out HCD.out HS2.out HN.out.2.2.2.symm
              subst hv1
              subst hv2
              have d2 : ¬ (k : Int) < (k : Int) := by omega
              have HL1 := Lib.hid hl1
              have HL2 := Lib.hid hl2
              have KC1 : Hid (∀ W, Below wr.heap.size wr W → Calls Try.prog 16 #[.agg #[.slice M1.se.a n1 M1.se.c, .slice M1.po.a n2 M1.po.c, .slice M1.sg.a n3 M1.sg.c, .slice a1 rs1.length c1]] W fun e w' => e = .returned (.tuple #[.int .i64 0, .int .i64 0]) ∧ Below W.heap.size W w') := Lib.hid (fun W hW => by
                have h := check_is _ W (hl1.below hW)
                rw [hc1] at h
                dsimp only at h
                rw [slv (HS1.out.se ▸ HN.out.1), slv (HS1.out.po ▸ HN.out.2.1), slv (HS1.out.sg ▸ HN.out.2.2.1), slv2 rfl] at h
                exact h)
              have KC2 : Hid (∀ W, Below wr.heap.size wr W → Calls Try.prog 16 #[.agg #[.slice M2.se.a n1 M2.se.c, .slice M2.po.a n2 M2.po.c, .slice M2.sg.a n3 M2.sg.c, .slice a2 rs2.length c2]] W fun e w' => e = .returned (.tuple #[.int .i64 0, .int .i64 0]) ∧ Below W.heap.size W w') := Lib.hid (fun W hW => by
                have h := check_is _ W (hl2.below hW)
                rw [hc2] at h
                dsimp only at h
                rw [slv (HS2.out.se ▸ HN.out.1), slv (HS2.out.po ▸ HN.out.2.1), slv (HS2.out.sg ▸ HN.out.2.2.1), slv2 rfl] at h
                exact h)
              have q9 := hI.b9
              have q0 := blk_cell q9 0 _ rfl
              have q1 := blk_cell q9 1 _ rfl
              have q2 := blk_cell q9 2 _ rfl
              have q3 := blk_cell q9 3 _ rfl
              clear hk hlt hI hl1 hl2 hc1 hc2 q9
              go_wp2_with fail
              clear q0 q1 q2 q3 l3 d2
              refine (KC1.out _ (Below.refl _ _)).mono ?_
              rintro e w7 ⟨rfl, hb7⟩
              have q10 := blk_keep hb7 HC.out.b10
              have q0 := blk_cell q10 0 _ rfl
              have q1 := blk_cell q10 1 _ rfl
              have q2 := blk_cell q10 2 _ rfl
              have q3 := blk_cell q10 3 _ rfl
              have HB7 := Lib.hid hb7
              clear hb7 q10
              go_wp2_with fail
              clear q0 q1 q2 q3
              refine (KC2.out _ HB7.out).mono ?_
              rintro e w8 ⟨rfl, hb8⟩
              have HB8 := Lib.hid (below_on HB7.out hb8)
              clear hb8
              go_wp2_with fail
              refine (works_is _).mono ?_
              rintro e w9 ⟨rfl, hb9⟩
              have HB9 := Lib.hid (below_on HC.out.below (below_on HB8.out hb9))
              clear hb9
              go_wp2_with fail
              go_ret
              exact ⟨rfl, HB9.out⟩
  · injection hc with hc1 hc2
    subst hc1
    subst hc2
    have HM := Lib.hid hm
    have HF := Lib.hid hf
    clear hm hf
    obtain ⟨l0, l1, l2, l3⟩ : w2.cell? ⟨gl, 0, none⟩ = some (.slice L.se.a n1 L.se.c) ∧ w2.cell? ⟨gl, 1, none⟩ = some (.slice L.po.a n2 L.po.c) ∧ w2.cell? ⟨gl, 2, none⟩ = some (.slice L.sg.a n3 L.sg.c) ∧ w2.cell? ⟨gl, 3, none⟩ = some (.slice L.rt.a n4 L.rt.c) := by
      have q := HQ.out
      exact ⟨blk_cell q 0 _ rfl, blk_cell q 1 _ rfl, blk_cell q 2 _ rfl, blk_cell q 3 _ rfl⟩
    go_wp2_with fail
    clear l0 l1 l2 l3
    go_loopg [7, 8] n4 (fun g a i wr => ∃ (k : Nat) (A : Bool), (A = true → k + g = n4) ∧ i = .int .i64 (k : Int) ∧ a = .bool A ∧ (A = true → ∀ j y, j < k → L.rt.l[j]? = some y → formedS L y = true) ∧ wr.heap[gl]? = some (.cells #[.slice L.se.a n1 L.se.c, .slice L.po.a n2 L.po.c, .slice L.sg.a n3 L.sg.c, .slice L.rt.a n4 L.rt.c] 39) ∧ Below w.heap.size w wr)
    case atStart => exact ⟨0, true, fun _ => by omega, rfl, rfl, fun _ j y h => absurd h (Nat.not_lt_zero _), HQ.out, HB.out⟩
    case round =>
      obtain ⟨k, A, hk, rfl, rfl, hj, hq, hb⟩ := hrel
      clear HQ HB
      have HB := Lib.hid hb
      have HQ := Lib.hid hq
      have HJ := Lib.hid hj
      have HK := Lib.hid hk
      clear hq hb hj hk
      obtain ⟨l0, l1, l2, l3⟩ : wr.cell? ⟨gl, 0, none⟩ = some (.slice L.se.a n1 L.se.c) ∧ wr.cell? ⟨gl, 1, none⟩ = some (.slice L.po.a n2 L.po.c) ∧ wr.cell? ⟨gl, 2, none⟩ = some (.slice L.sg.a n3 L.sg.c) ∧ wr.cell? ⟨gl, 3, none⟩ = some (.slice L.rt.a n4 L.rt.c) := by
        have q := HQ.out
        exact ⟨blk_cell q 0 _ rfl, blk_cell q 1 _ rfl, blk_cell q 2 _ rfl, blk_cell q 3 _ rfl⟩
      by_cases hlt : k < n4
      · have d2 : (k : Int) < n4 := by omega
        cases A with
        | false =>
          clear hlt
          go_wp2_with fail
          refine (works_is _).mono ?_
          rintro e w9 ⟨rfl, hb⟩
          have HB9 := Lib.hid (below_on HB.out hb)
          clear hb
          go_wp2_with fail
          go_ret
          exact ⟨rfl, HB9.out⟩
        | true =>
          have HJT := Lib.hid (HJ.out rfl)
          have HKT := Lib.hid (HK.out rfl)
          clear HJ HK
          obtain ⟨y, hy⟩ : ∃ y, L.rt.l[k]? = some y := ⟨_, List.getElem?_eq_getElem (by rw [HN.out.2.2.2]; exact hlt)⟩
          have HY := Lib.hid hy
          have hmem := List.mem_of_getElem? hy
          have d1 : (0 : Int) ≤ k := by omega
          have d2 : (k : Int) < n4 := by omega
          have e0 : wrap64 ((k : Int) + 1) = (k : Int) + 1 := by have := HM4.out; unfold wrap64; omega
          obtain ⟨b, hb⟩ : ∃ b, formedS L y = b := ⟨_, rfl⟩
          have HBF := Lib.hid hb
          have HC := Lib.hid (K3.out HM.out wr HB.out k y b hy hb)
          have HLT := Lib.hid hlt
          clear hy hmem hlt hb
          go_wp2_with fail
          clear l0 l1 l2 l3
          refine HC.out.mono ?_
          rintro e w4 ⟨rfl, hb⟩
          have hq := blk_keep hb HQ.out
          have hbw := below_on HB.out hb
          clear HQ HB hb
          have HQ := Lib.hid hq
          have HB := Lib.hid hbw
          clear hq hbw
          cases b with
          | true =>
            have HJ2 : Hid (∀ j y, j < k + 1 → L.rt.l[j]? = some y → formedS L y = true) := Lib.hid (fun j y2 hj2 hs => by
              rcases Nat.lt_or_ge j k with h | h
              · exact HJT.out j y2 h hs
              · have hjk : j = k := by omega
                subst hjk
                rw [HY.out] at hs; cases hs
                exact HBF.out)
            go_wp2_with fail
            go_roundg (n4 - (k + 1))
            case rel => exact ⟨k + 1, true, fun _ => by have := HKT.out; have := HLT.out; omega, by go_num, rfl, fun _ => HJ2.out, HQ.out, HB.out⟩
            case measure => have := HKT.out; have := HLT.out; omega
          | false =>
            go_wp2_with fail
            go_roundg (n4 - (k + 1))
            case rel => exact ⟨k + 1, false, fun h => absurd h (by decide), by go_num, rfl, fun h => absurd h (by decide), HQ.out, HB.out⟩
            case measure => have := HKT.out; have := HLT.out; omega
      · have d2 : ¬ (k : Int) < n4 := by omega
        cases A with
        | false =>
          clear hlt
          go_wp2_with fail
          refine (works_is _).mono ?_
          rintro e w9 ⟨rfl, hb⟩
          have HB9 := Lib.hid (below_on HB.out hb)
          clear hb
          go_wp2_with fail
          go_ret
          exact ⟨rfl, HB9.out⟩
        | true =>
          exact absurd (fun r hr => by
            obtain ⟨j, hj⟩ := List.getElem?_of_mem hr
            exact HJ.out rfl j r (by have := (List.getElem?_eq_some_iff.1 hj).1; have := HN.out.2.2.2; omega) hj) HF.out

theorem walk_TopoLess (v0 : Array Value) (a1 : Int) (w : World) (_s0 : v0.size = Try.prog.cellsOf 39) (w0 : Rd Try.prog w 39 v0.toList) (_w1 : (Lit.int .i64 a1).wf = true) :
    Calls Try.prog 6 #[.agg v0, .int .i64 a1] w fun e w' => e = .returned (.bool true) ∧ Below w.heap.size w w' := by
  obtain ⟨L, hv, hL⟩ := lay_of w0
  obtain rfl : v0 = #[L.se.v, L.po.v, L.sg.v, L.rt.v] := by apply Array.toList_inj.1; rw [hv]
  exact topoLess_is L a1 w hL
end Go.Proofs.Ytdkcpejlojdijaa
