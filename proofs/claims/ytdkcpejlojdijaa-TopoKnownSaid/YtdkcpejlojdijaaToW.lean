/-
  Walks: the document's formed.
-/
import Derived.Test.YtdkcpejlojdijaaToV
namespace Go.Proofs.Ytdkcpejlojdijaa
open Go.RowKit
theorem cnt_lt {l : List Int} {s : Int} {c : Nat} {D : Bool} (hc : cntI l s = c) (hD : hasI l s = D) : (D = true ∧ (0 : Int) < c ∧ 0 < c) ∨ (D = false ∧ ¬ (0 : Int) < c ∧ ¬ 0 < c) := by
  cases D with
  | true => have := cnt_yes hD; exact .inl ⟨rfl, by omega, by omega⟩
  | false => have := cnt_no hD; exact .inr ⟨rfl, by omega, by omega⟩
attribute [local irreducible] hasI hasP dupI dupN okPt okPts secOf formedS Sl.v cntI

set_option maxRecDepth 100000 in
set_option maxHeartbeats 3000000 in
theorem rformed_is (L : Lay) (r : Rt) (w : World) (hL : LayAt w L) (hr : RtAt w r) (hsg : 0 ≤ r.sg) (hsn : r.sg < (L.sg.l.length : Int)) (hl1 : r.pa.l.length + r.ov.l.length ≤ 100000) (hl2 : r.po.l.length + r.fl.l.length ≤ 100000) :
    Calls Try.prog 31 #[.agg #[L.se.v, L.po.v, L.sg.v, L.rt.v], .agg #[.string r.nm, .int .i64 r.sg, r.pa.v, r.po.v, r.ov.v, r.fl.v]] w fun e w' => e = .returned (.bool (formedS L r)) ∧ Below w.heap.size w w' := by
  have HA := Lib.hid hL
  have HTR : Hid (∀ W, Below w.heap.size w W → Calls Try.prog 11 #[.agg #[.string r.nm, .int .i64 r.sg, r.pa.v, r.po.v, r.ov.v, r.fl.v]] W fun e w' => ∃ a n c, e = .returned (.slice a n c) ∧ n = r.pa.l.length + r.ov.l.length ∧ SlAt 1 intC w' ⟨a, c, r.pa.l ++ r.ov.l⟩ ∧ Below W.heap.size W w') := Lib.hid (fun W hb => rtrack_is r W (hr.below hb) hl1)
  have HND : Hid (∀ W, Below w.heap.size w W → Calls Try.prog 12 #[.agg #[.string r.nm, .int .i64 r.sg, r.pa.v, r.po.v, r.ov.v, r.fl.v]] W fun e w' => ∃ a n c, e = .returned (.slice a n c) ∧ n = r.po.l.length + r.fl.l.length ∧ SlAt 2 ndC w' ⟨a, c, r.po.l ++ r.fl.l⟩ ∧ Below W.heap.size W w') := Lib.hid (fun W hb => rneeds_is r W (hr.below hb) hl2)
  obtain ⟨n1, hn1⟩ : ∃ n, L.se.l.length = n := ⟨_, rfl⟩
  obtain ⟨n2, hn2⟩ : ∃ n, L.po.l.length = n := ⟨_, rfl⟩
  obtain ⟨n3, hn3⟩ : ∃ n, L.sg.l.length = n := ⟨_, rfl⟩
  obtain ⟨n4, hn4⟩ : ∃ n, L.rt.l.length = n := ⟨_, rfl⟩
  obtain ⟨m1, hm1⟩ : ∃ n, r.pa.l.length = n := ⟨_, rfl⟩
  obtain ⟨m2, hm2⟩ : ∃ n, r.po.l.length = n := ⟨_, rfl⟩
  obtain ⟨m3, hm3⟩ : ∃ n, r.ov.l.length = n := ⟨_, rfl⟩
  obtain ⟨m4, hm4⟩ : ∃ n, r.fl.l.length = n := ⟨_, rfl⟩
  have v1 := slv hn1
  have v2 := slv hn2
  have v3 := slv hn3
  have v4 := slv hn4
  have u1 := slv hm1
  have u2 := slv hm2
  have u3 := slv hm3
  have u4 := slv hm4
  have R2 := Lib.hid hL.po.row
  have R3 := Lib.hid hL.sg.row
  have M2 := Lib.hid hL.po.lenM
  have Q2 := Lib.hid hr.po.row
  have Q4 := Lib.hid hr.fl.row
  obtain ⟨T, hT⟩ : ∃ T, r.pa.l ++ r.ov.l = T := ⟨_, rfl⟩
  obtain ⟨N, hN⟩ : ∃ N, r.po.l ++ r.fl.l = N := ⟨_, rfl⟩
  obtain ⟨nm, hnm⟩ : ∃ x, r.nm = x := ⟨_, rfl⟩
  obtain ⟨ks, hks⟩ : ∃ k : Nat, r.sg = (k : Int) := ⟨r.sg.toNat, by omega⟩
  obtain ⟨a1, ha1⟩ : ∃ a, L.se.a = a := ⟨_, rfl⟩
  obtain ⟨c1, hc1⟩ : ∃ a, L.se.c = a := ⟨_, rfl⟩
  rw [ha1, hc1] at v1
  obtain ⟨a2, ha2⟩ : ∃ a, L.po.a = a := ⟨_, rfl⟩
  obtain ⟨c2, hc2⟩ : ∃ a, L.po.c = a := ⟨_, rfl⟩
  rw [ha2, hc2] at v2
  obtain ⟨a3, ha3⟩ : ∃ a, L.sg.a = a := ⟨_, rfl⟩
  obtain ⟨c3, hc3⟩ : ∃ a, L.sg.c = a := ⟨_, rfl⟩
  rw [ha3, hc3] at v3
  obtain ⟨a4, ha4⟩ : ∃ a, L.rt.a = a := ⟨_, rfl⟩
  obtain ⟨c4, hc4⟩ : ∃ a, L.rt.c = a := ⟨_, rfl⟩
  rw [ha4, hc4] at v4
  obtain ⟨b1, hb1⟩ : ∃ a, r.pa.a = a := ⟨_, rfl⟩
  obtain ⟨e1, he1⟩ : ∃ a, r.pa.c = a := ⟨_, rfl⟩
  rw [hb1, he1] at u1
  obtain ⟨b2, hb2⟩ : ∃ a, r.po.a = a := ⟨_, rfl⟩
  obtain ⟨e2, he2⟩ : ∃ a, r.po.c = a := ⟨_, rfl⟩
  rw [hb2, he2] at u2
  obtain ⟨b3, hb3⟩ : ∃ a, r.ov.a = a := ⟨_, rfl⟩
  obtain ⟨e3, he3⟩ : ∃ a, r.ov.c = a := ⟨_, rfl⟩
  rw [hb3, he3] at u3
  obtain ⟨b4, hb4⟩ : ∃ a, r.fl.a = a := ⟨_, rfl⟩
  obtain ⟨e4, he4⟩ : ∃ a, r.fl.c = a := ⟨_, rfl⟩
  rw [hb4, he4] at u4
  rw [ha2] at R2
  rw [ha3] at R3
  rw [hb2] at Q2
  rw [hb4] at Q4
  rw [hn3, hks] at hsn
  rw [hnm, hks, u1, u2, u3, u4] at HTR HND
  rw [hT, hm1, hm3] at HTR
  rw [hN, hm2, hm4] at HND
  rw [hnm, hks, u1, u2, u3, u4, v1, v2, v3, v4]
  have HV := Lib.hid (And.intro v1 (And.intro v2 (And.intro v3 v4)))
  have HU := Lib.hid (And.intro hnm (And.intro hks (And.intro u1 (And.intro u2 (And.intro u3 u4)))))
  have HNN := Lib.hid (And.intro hn2 hn3)
  have HMM := Lib.hid (And.intro hm1 (And.intro hm2 (And.intro hm3 hm4)))
  have HTN := Lib.hid (And.intro hT hN)
  have HT : Hid (T.length = m1 + m3) := Lib.hid (by rw [← hT, List.length_append, hm1, hm3])
  have HN : Hid (N.length = m2 + m4) := Lib.hid (by rw [← hN, List.length_append, hm2, hm4])
  rw [hm1, hm3] at hl1
  rw [hm2, hm4] at hl2
  have HL1 := Lib.hid hl1
  have HL2 := Lib.hid hl2
  have s1 : (0 : Int) ≤ ks := by omega
  have HSN := Lib.hid (show ks < n3 by omega)
  have s2 : (ks : Int) < n3 := hsn
  clear hn1 hn2 hn3 hn4 hm1 hm2 hm3 hm4 ha1 ha2 ha3 ha4 hc1 hc2 hc3 hc4 hb1 hb2 hb3 hb4 he1 he2 he3 he4 v1 v2 v3 v4 u1 u2 u3 u4 hL hr hnm hks hT hN hsg hsn hl1 hl2
  obtain ⟨gl, hgl⟩ : ∃ g, g = w.heap.size := ⟨_, rfl⟩
  obtain ⟨gr, hgr⟩ : ∃ g, g = gl + 1 := ⟨_, rfl⟩
  have HGL := Lib.hid hgl
  have HGR := Lib.hid hgr
  clear hgl hgr
  go_enter Try.func31, Try.ntmps31
  go_wp2_with fail
  refine (HTR.out _ (below2' w _ _)).mono ?_
  rintro e w1 ⟨ta, tn, tc, rfl, hn, hS, hb⟩
  have HM : FoAt w w1 gl gr L r := by
    obtain ⟨q1, q2⟩ := alloc2' w (.cells #[.slice a1 n1 c1, .slice a2 n2 c2, .slice a3 n3 c3, .slice a4 n4 c4] 39) (.cells #[.string nm, .int .i64 (ks : Int), .slice b1 m1 e1, .slice b2 m2 e2, .slice b3 m3 e3, .slice b4 m4 e4] 25)
    obtain ⟨x1, x2, x3, x4⟩ := HV.out
    obtain ⟨y1, y2, y3, y4, y5, y6⟩ := HU.out
    refine ⟨?_, ?_, below_on (below2' w _ _) hb⟩
    · rw [HGL.out, x1, x2, x3, x4]; exact blk_keep hb q1
    · rw [HGR.out, HGL.out, y1, y2, y3, y4, y5, y6]; exact blk_keep hb q2
  rw [← HGL.out, ← HGR.out]
  have HM := Lib.hid HM
  have HS := Lib.hid hS
  obtain rfl := hn
  clear hb hS
  obtain ⟨r0, r1, r2, r3, r4, r5⟩ : w1.cell? ⟨gr, 0, none⟩ = some (.string nm) ∧ w1.cell? ⟨gr, 1, none⟩ = some (.int .i64 (ks : Int)) ∧ w1.cell? ⟨gr, 2, none⟩ = some (.slice b1 m1 e1) ∧ w1.cell? ⟨gr, 3, none⟩ = some (.slice b2 m2 e2) ∧ w1.cell? ⟨gr, 4, none⟩ = some (.slice b3 m3 e3) ∧ w1.cell? ⟨gr, 5, none⟩ = some (.slice b4 m4 e4) := by
    obtain ⟨y1, y2, y3, y4, y5, y6⟩ := HU.out
    rw [← y1, ← y2, ← y3, ← y4, ← y5, ← y6]
    exact ⟨blk_cell HM.out.rt 0 _ rfl, blk_cell HM.out.rt 1 _ rfl, blk_cell HM.out.rt 2 _ rfl, blk_cell HM.out.rt 3 _ rfl, blk_cell HM.out.rt 4 _ rfl, blk_cell HM.out.rt 5 _ rfl⟩
  go_wp2_with fail
  clear r0 r1 r2 r3 r4 r5
  refine (HND.out _ HM.out.below).mono ?_
  rintro e w2 ⟨na, nn, nc, rfl, hn, hS2, hb⟩
  have hM := HM.out.step hb
  have hS := HS.out.below hb
  clear HM HS hb
  have HM := Lib.hid hM
  have HS := Lib.hid hS
  clear hM hS
  have HS2 := Lib.hid hS2
  obtain rfl := hn
  clear hS2
  go_wp2_with fail
  refine (r5points_is na _ nc N w2 HN.out (by have := HL2.out; omega) (by have := HL2.out; omega) HS2.out.row).mono ?_
  rintro e w3 ⟨pa, pn, pc, rfl, hn, hP, hb⟩
  have hM := HM.out.step hb
  have hS := HS.out.below hb
  clear HM HS hb
  have HM := Lib.hid hM
  have HS := Lib.hid hS
  clear hM hS
  have HP := Lib.hid hP
  rw [HN.out] at hn
  obtain rfl := hn
  clear hP HS2
  have HPL : Hid ((N.map (·.1)).length = m2 + m4) := Lib.hid (by rw [List.length_map, HN.out])
  obtain ⟨l1, l2, r1, r2, r3, r5⟩ : w3.cell? ⟨gl, 1, none⟩ = some (.slice a2 n2 c2) ∧ w3.cell? ⟨gl, 2, none⟩ = some (.slice a3 n3 c3) ∧ w3.cell? ⟨gr, 1, none⟩ = some (.int .i64 (ks : Int)) ∧ w3.cell? ⟨gr, 2, none⟩ = some (.slice b1 m1 e1) ∧ w3.cell? ⟨gr, 3, none⟩ = some (.slice b2 m2 e2) ∧ w3.cell? ⟨gr, 5, none⟩ = some (.slice b4 m4 e4) := by
    obtain ⟨x1, x2, x3, x4⟩ := HV.out
    obtain ⟨y1, y2, y3, y4, y5, y6⟩ := HU.out
    rw [← x2, ← x3, ← y2, ← y3, ← y4, ← y6]
    exact ⟨blk_cell HM.out.lay 1 _ rfl, blk_cell HM.out.lay 2 _ rfl, blk_cell HM.out.rt 1 _ rfl, blk_cell HM.out.rt 2 _ rfl, blk_cell HM.out.rt 3 _ rfl, blk_cell HM.out.rt 5 _ rfl⟩
  by_cases h0 : m1 = 0
  · have HF : Hid (formedS L r = false) := Lib.hid (fs_0 (HMM.out.1.trans h0))
    subst h0
    go_wp2_with fail
    go_ret
    exact ⟨by rw [HF.out]; rfl, HM.out.below⟩
  have h01 : ¬ (m1 : Int) = 0 := by omega
  have h02 : ((m1 : Int) == 0) = false := by simpa using h01
  have H0 := Lib.hid h0
  clear h0
  obtain ⟨y, hy⟩ : ∃ y, L.sg.l[ks]? = some y := ⟨_, List.getElem?_eq_getElem (by rw [HNN.out.2]; exact HSN.out)⟩
  rcases R3.out.below HM.out.below with hnil | ⟨xs, os, rfl, hc⟩
  · rw [hnil] at hy; simp at hy
  obtain ⟨y0, y1⟩ := y
  have z1 := hc ks _ hy 1 _ rfl
  have hsec := secOf_at hy
  dsimp only at z1 hsec
  rw [← HU.out.2.1] at hsec
  have HSE := Lib.hid hsec
  clear hc hy hsec
  obtain ⟨D, hD⟩ : ∃ D, hasI T y1 = D := ⟨_, rfl⟩
  have HC := Lib.hid (count_is ta (m1 + m3) tc T y1 w3 HT.out (by have := HL1.out; omega) HS.out.row)
  obtain ⟨c, hcc⟩ : ∃ c, cntI T y1 = c := ⟨_, rfl⟩
  rw [hcc] at HC
  have hlt := cnt_lt hcc hD
  have HDD := Lib.hid hD
  clear hcc hD
  have HLT := Lib.hid hlt
  clear hlt
  go_wp2_with fail
  refine HC.out.mono ?_
  rintro e w4 ⟨rfl, rfl⟩
  clear HC z1
  clear l1 l2 r1 r2 r3 r5
  rcases HLT.out with ⟨rfl, c1, c1n⟩ | ⟨rfl, c1, c1n⟩
  · have HF : Hid (formedS L r = false) := Lib.hid (fs_2 (by rw [HTN.out.1, HSE.out]; exact HDD.out))
    clear HLT
    go_wp2_with fail
    go_ret
    exact ⟨by rw [HF.out]; rfl, HM.out.below⟩
  have HD2 : Hid (hasI T (secOf L r.sg) = false) := Lib.hid (by rw [HSE.out]; exact HDD.out)
  clear HDD HSE HLT
  go_wp2_with fail
  clear c1 c1n h01 h02
  go_loopg [7] (m1 + m3) (fun g i wr => ∃ k : Nat, k + g = m1 + m3 ∧ i = .int .i64 (k : Int) ∧ (∀ j y, j < k → T[j]? = some y → ¬ 1 < cntI (T) y) ∧ FoAt w wr gl gr L r ∧ SlAt 1 intC wr ⟨ta, tc, T⟩ ∧ SlAt 1 intC wr ⟨pa, pc, N.map (·.1)⟩)
  case atStart => exact ⟨0, by omega, rfl, fun j y hj => absurd hj (Nat.not_lt_zero _), HM.out, HS.out, HP.out⟩
  case round =>
    obtain ⟨k, hk, rfl, hst, hM, hS, hP⟩ := hrel
    clear HM HS HP
    have HM := Lib.hid hM
    have HS := Lib.hid hS
    have HP := Lib.hid hP
    have HST := Lib.hid hst
    clear hst hM hS hP
    by_cases hlt : k < m1 + m3
    · obtain ⟨y, hy⟩ : ∃ y, T[k]? = some y := ⟨_, List.getElem?_eq_getElem (by rw [HT.out]; exact hlt)⟩
      have hrow := HS.out.row
      dsimp only at hrow
      rcases hrow with hnil | ⟨xb, off, rfl, hc⟩
      · rw [hnil] at hy; simp at hy
      have z0 := hc k _ hy 0 _ rfl
      rw [Nat.add_zero, Nat.mul_one] at z0
      have HY := Lib.hid hy
      have d1 : (0 : Int) ≤ k := by omega
      have d2 : (k : Int) < ((m1 + m3 : Nat) : Int) := by omega
      have d3 := d2
      rw [Int.natCast_add] at d3
      have e0 : wrap64 ((k : Int) + 1) = (k : Int) + 1 := by have := HL1.out; have := HL2.out; unfold wrap64; omega
      have HK := Lib.hid hk
      have HC := Lib.hid (count_is (some ⟨xb, off, none⟩) (m1 + m3) tc (T) y wr HT.out (by have := HL1.out; have := HL2.out; omega) HS.out.row)
      obtain ⟨c, hcc⟩ : ∃ c, cntI (T) y = c := ⟨_, rfl⟩
      rw [hcc] at HC
      have HCC := Lib.hid hcc
      clear hc hy hk hcc
      by_cases c1 : (1 : Int) < c
      · have c1n : 1 < c := by omega
        have HF : Hid (formedS L r = false) := Lib.hid (fs_1 (by rw [HTN.out.1]; exact dup_big (List.mem_of_getElem? HY.out) (by rw [HCC.out]; omega)))
        go_wp2_with fail
        refine HC.out.mono ?_
        rintro e w5 ⟨rfl, rfl⟩
        go_wp2_with fail
        go_ret
        exact ⟨by rw [HF.out]; rfl, HM.out.below⟩
      · have c1n : ¬ 1 < c := by omega
        have HX : Hid (∀ j y, j < k + 1 → T[j]? = some y → ¬ 1 < cntI (T) y) := Lib.hid (fun j y2 hj hs => by
          rcases Nat.lt_or_ge j k with h | h
          · exact HST.out j y2 h hs
          · have hjk : j = k := by omega
            subst hjk
            rw [HY.out] at hs; cases hs
            rw [HCC.out]; omega)
        go_wp2_with fail
        refine HC.out.mono ?_
        rintro e w5 ⟨rfl, rfl⟩
        go_wp2_with fail
        go_roundg (m1 + m3 - (k + 1))
        case rel => exact ⟨k + 1, by have := HK.out; omega, by go_num, HX.out, HM.out, HS.out, HP.out⟩
        case measure => have := HK.out; omega
    · have hkm : k = m1 + m3 := by omega
      have HD1 : Hid (dupI [] (T) = false) := Lib.hid (dup_small (fun y hy => by
        obtain ⟨j, hj⟩ := List.getElem?_of_mem hy
        exact HST.out j y (by have := (List.getElem?_eq_some_iff.1 hj).1; have := HT.out; omega) hj))
      have d2 : ¬ (k : Int) < ((m1 + m3 : Nat) : Int) := by omega
      have d3 := d2
      rw [Int.natCast_add] at d3
      clear hk hlt hkm HST
      go_wp2_with fail
      clear d2 d3
      go_loopg [8] (m2 + m4) (fun g i wr => ∃ k : Nat, k + g = m2 + m4 ∧ i = .int .i64 (k : Int) ∧ (∀ j y, j < k → (N.map (·.1))[j]? = some y → ¬ 1 < cntI ((N.map (·.1))) y) ∧ FoAt w wr gl gr L r ∧ SlAt 1 intC wr ⟨ta, tc, T⟩ ∧ SlAt 1 intC wr ⟨pa, pc, N.map (·.1)⟩)
      case atStart => exact ⟨0, by omega, rfl, fun j y hj => absurd hj (Nat.not_lt_zero _), HM.out, HS.out, HP.out⟩
      case round =>
        obtain ⟨k, hk, rfl, hst, hM, hS, hP⟩ := hrel
        clear HM HS HP
        have HM := Lib.hid hM
        have HS := Lib.hid hS
        have HP := Lib.hid hP
        have HST := Lib.hid hst
        clear hst hM hS hP
        by_cases hlt : k < m2 + m4
        · obtain ⟨y, hy⟩ : ∃ y, (N.map (·.1))[k]? = some y := ⟨_, List.getElem?_eq_getElem (by rw [HPL.out]; exact hlt)⟩
          have hrow := HP.out.row
          dsimp only at hrow
          rcases hrow with hnil | ⟨xb, off, rfl, hc⟩
          · rw [hnil] at hy; simp at hy
          have z0 := hc k _ hy 0 _ rfl
          rw [Nat.add_zero, Nat.mul_one] at z0
          have HY := Lib.hid hy
          have d1 : (0 : Int) ≤ k := by omega
          have d2 : (k : Int) < ((m2 + m4 : Nat) : Int) := by omega
          have d3 := d2
          rw [Int.natCast_add] at d3
          have e0 : wrap64 ((k : Int) + 1) = (k : Int) + 1 := by have := HL1.out; have := HL2.out; unfold wrap64; omega
          have HK := Lib.hid hk
          have HC := Lib.hid (count_is (some ⟨xb, off, none⟩) (m2 + m4) pc ((N.map (·.1))) y wr HPL.out (by have := HL1.out; have := HL2.out; omega) HP.out.row)
          obtain ⟨c, hcc⟩ : ∃ c, cntI ((N.map (·.1))) y = c := ⟨_, rfl⟩
          rw [hcc] at HC
          have HCC := Lib.hid hcc
          clear hc hy hk hcc
          by_cases c1 : (1 : Int) < c
          · have c1n : 1 < c := by omega
            have HF : Hid (formedS L r = false) := Lib.hid (fs_3 (by rw [HTN.out.2, dupN_map]; exact dup_big (List.mem_of_getElem? HY.out) (by rw [HCC.out]; omega)))
            go_wp2_with fail
            refine HC.out.mono ?_
            rintro e w5 ⟨rfl, rfl⟩
            go_wp2_with fail
            go_ret
            exact ⟨by rw [HF.out]; rfl, HM.out.below⟩
          · have c1n : ¬ 1 < c := by omega
            have HX : Hid (∀ j y, j < k + 1 → (N.map (·.1))[j]? = some y → ¬ 1 < cntI ((N.map (·.1))) y) := Lib.hid (fun j y2 hj hs => by
              rcases Nat.lt_or_ge j k with h | h
              · exact HST.out j y2 h hs
              · have hjk : j = k := by omega
                subst hjk
                rw [HY.out] at hs; cases hs
                rw [HCC.out]; omega)
            go_wp2_with fail
            refine HC.out.mono ?_
            rintro e w5 ⟨rfl, rfl⟩
            go_wp2_with fail
            go_roundg (m2 + m4 - (k + 1))
            case rel => exact ⟨k + 1, by have := HK.out; omega, by go_num, HX.out, HM.out, HS.out, HP.out⟩
            case measure => have := HK.out; omega
        · have hkm : k = m2 + m4 := by omega
          have HD3 : Hid (dupI [] ((N.map (·.1))) = false) := Lib.hid (dup_small (fun y hy => by
            obtain ⟨j, hj⟩ := List.getElem?_of_mem hy
            exact HST.out j y (by have := (List.getElem?_eq_some_iff.1 hj).1; have := HPL.out; omega) hj))
          have d2 : ¬ (k : Int) < ((m2 + m4 : Nat) : Int) := by omega
          have d3 := d2
          rw [Int.natCast_add] at d3
          clear hk hlt hkm HST
          go_wp2_with fail
          clear d2 d3
          go_loopg [9, 10] n2 (fun g i _ wr => ∃ k : Nat, k + g = n2 ∧ i = .int .i64 (k : Int) ∧ okPts T r.po.l r.fl.l k (L.po.l.drop k) = okPts T r.po.l r.fl.l 0 L.po.l ∧ FoAt w wr gl gr L r ∧ SlAt 1 intC wr ⟨ta, tc, T⟩)
          case atStart => exact ⟨0, by omega, rfl, rfl, HM.out, HS.out⟩
          case round =>
            obtain ⟨k, hk, rfl, hst, hM, hS⟩ := hrel
            clear HM HS HP
            have HM := Lib.hid hM
            have HS := Lib.hid hS
            have HST := Lib.hid hst
            clear hst hM hS
            by_cases hlt : k < n2
            · obtain ⟨y, hy⟩ : ∃ y, L.po.l[k]? = some y := ⟨_, List.getElem?_eq_getElem (by rw [HNN.out.1]; exact hlt)⟩
              rcases R2.out.below HM.out.below with hnil | ⟨xb, off, rfl, hc⟩
              · rw [hnil] at hy; simp at hy
              obtain ⟨y0, y1⟩ := y
              have z1 := hc k _ hy 1 _ rfl
              dsimp only at z1
              have HY := Lib.hid hy
              have d1 : (0 : Int) ≤ k := by omega
              have d2 : (k : Int) < n2 := by omega
              have e0 : wrap64 ((k : Int) + 1) = (k : Int) + 1 := by have := HNN.out; have := M2.out; unfold wrap64; omega
              have HK := Lib.hid hk
              clear hc hy hk
              obtain ⟨D, hD⟩ : ∃ D, hasI T y1 = D := ⟨_, rfl⟩
              obtain ⟨cD, hcc⟩ : ∃ c, cntI T y1 = c := ⟨_, rfl⟩
              have HC := Lib.hid (count_is ta (m1 + m3) tc T y1 wr HT.out (by have := HL1.out; omega) HS.out.row)
              rw [hcc] at HC
              have HLT := Lib.hid (cnt_lt hcc hD)
              have HDD := Lib.hid hD
              clear hcc hD
              obtain ⟨l1, l2, r1, r2, r3, r5⟩ : wr.cell? ⟨gl, 1, none⟩ = some (.slice (some ⟨xb, off, none⟩) n2 c2) ∧ wr.cell? ⟨gl, 2, none⟩ = some (.slice (some ⟨xs, os, none⟩) n3 c3) ∧ wr.cell? ⟨gr, 1, none⟩ = some (.int .i64 (ks : Int)) ∧ wr.cell? ⟨gr, 2, none⟩ = some (.slice b1 m1 e1) ∧ wr.cell? ⟨gr, 3, none⟩ = some (.slice b2 m2 e2) ∧ wr.cell? ⟨gr, 5, none⟩ = some (.slice b4 m4 e4) := by
                obtain ⟨x1, x2, x3, x4⟩ := HV.out
                obtain ⟨y1, y2, y3, y4, y5, y6⟩ := HU.out
                rw [← x2, ← x3, ← y2, ← y3, ← y4, ← y6]
                exact ⟨blk_cell HM.out.lay 1 _ rfl, blk_cell HM.out.lay 2 _ rfl, blk_cell HM.out.rt 1 _ rfl, blk_cell HM.out.rt 2 _ rfl, blk_cell HM.out.rt 3 _ rfl, blk_cell HM.out.rt 5 _ rfl⟩
              go_wp2_with fail
              refine HC.out.mono ?_
              rintro e w5 ⟨rfl, rfl⟩
              clear HC
              clear l1 l2 r1 r2 r3 r5
              rcases HLT.out with ⟨rfl, d5, d5n⟩ | ⟨rfl, d5, d5n⟩
              · clear HLT
                obtain ⟨l1, l2, r1, r2, r3, r5⟩ : wr.cell? ⟨gl, 1, none⟩ = some (.slice (some ⟨xb, off, none⟩) n2 c2) ∧ wr.cell? ⟨gl, 2, none⟩ = some (.slice (some ⟨xs, os, none⟩) n3 c3) ∧ wr.cell? ⟨gr, 1, none⟩ = some (.int .i64 (ks : Int)) ∧ wr.cell? ⟨gr, 2, none⟩ = some (.slice b1 m1 e1) ∧ wr.cell? ⟨gr, 3, none⟩ = some (.slice b2 m2 e2) ∧ wr.cell? ⟨gr, 5, none⟩ = some (.slice b4 m4 e4) := by
                  obtain ⟨x1, x2, x3, x4⟩ := HV.out
                  obtain ⟨y1, y2, y3, y4, y5, y6⟩ := HU.out
                  rw [← x2, ← x3, ← y2, ← y3, ← y4, ← y6]
                  exact ⟨blk_cell HM.out.lay 1 _ rfl, blk_cell HM.out.lay 2 _ rfl, blk_cell HM.out.rt 1 _ rfl, blk_cell HM.out.rt 2 _ rfl, blk_cell HM.out.rt 3 _ rfl, blk_cell HM.out.rt 5 _ rfl⟩
                go_wp2_with fail
                refine (r5points_is b2 m2 e2 r.po.l wr HMM.out.2.1 (by have := HL2.out; omega) (by have := HL2.out; omega) (Q2.out.below HM.out.below)).mono ?_
                rintro e w6 ⟨qa, qn, qc, rfl, hn, hQ, hb⟩
                rw [HMM.out.2.1] at hn
                obtain rfl : m2 = qn := hn.symm
                clear l1 l2 r1 r2 r3 r5
                have hM := HM.out.step hb
                have hS := HS.out.below hb
                clear HM HS hb
                have HM := Lib.hid hM
                have HS := Lib.hid hS
                clear hM hS
                have HQ := Lib.hid hQ
                clear hQ
                obtain ⟨E, hE⟩ : ∃ E, hasP r.po.l k = E := ⟨_, rfl⟩
                obtain ⟨cE, hcc⟩ : ∃ c, cntI (r.po.l.map (·.1)) (k : Int) = c := ⟨_, rfl⟩
                have HC := Lib.hid (count_is qa m2 qc (r.po.l.map (·.1)) (k : Int) w6 (by rw [List.length_map]; exact HMM.out.2.1) (by have := HL2.out; omega) HQ.out.row)
                rw [hcc] at HC
                have HLT := Lib.hid (cnt_lt hcc ((hasP_map _ _).trans hE))
                have HEE := Lib.hid hE
                clear hcc hE
                go_wp2_with fail
                refine HC.out.mono ?_
                rintro e w9 ⟨rfl, rfl⟩
                clear HC HQ
                clear d5 d5n
                rcases HLT.out with ⟨rfl, d6, d6n⟩ | ⟨rfl, d6, d6n⟩
                · clear HLT
                  obtain ⟨l1, l2, r1, r2, r3, r5⟩ : w6.cell? ⟨gl, 1, none⟩ = some (.slice (some ⟨xb, off, none⟩) n2 c2) ∧ w6.cell? ⟨gl, 2, none⟩ = some (.slice (some ⟨xs, os, none⟩) n3 c3) ∧ w6.cell? ⟨gr, 1, none⟩ = some (.int .i64 (ks : Int)) ∧ w6.cell? ⟨gr, 2, none⟩ = some (.slice b1 m1 e1) ∧ w6.cell? ⟨gr, 3, none⟩ = some (.slice b2 m2 e2) ∧ w6.cell? ⟨gr, 5, none⟩ = some (.slice b4 m4 e4) := by
                    obtain ⟨x1, x2, x3, x4⟩ := HV.out
                    obtain ⟨y1, y2, y3, y4, y5, y6⟩ := HU.out
                    rw [← x2, ← x3, ← y2, ← y3, ← y4, ← y6]
                    exact ⟨blk_cell HM.out.lay 1 _ rfl, blk_cell HM.out.lay 2 _ rfl, blk_cell HM.out.rt 1 _ rfl, blk_cell HM.out.rt 2 _ rfl, blk_cell HM.out.rt 3 _ rfl, blk_cell HM.out.rt 5 _ rfl⟩
                  go_wp2_with fail
                  refine (r5points_is b4 m4 e4 r.fl.l w6 HMM.out.2.2.2 (by have := HL2.out; omega) (by have := HL2.out; omega) (Q4.out.below HM.out.below)).mono ?_
                  rintro e w7 ⟨qa, qn, qc, rfl, hn, hQ, hb⟩
                  rw [HMM.out.2.2.2] at hn
                  obtain rfl : m4 = qn := hn.symm
                  clear l1 l2 r1 r2 r3 r5
                  have hM := HM.out.step hb
                  have hS := HS.out.below hb
                  clear HM HS hb
                  have HM := Lib.hid hM
                  have HS := Lib.hid hS
                  clear hM hS
                  have HQ := Lib.hid hQ
                  clear hQ
                  obtain ⟨F, hF⟩ : ∃ E, hasP r.fl.l k = E := ⟨_, rfl⟩
                  obtain ⟨cF, hcc⟩ : ∃ c, cntI (r.fl.l.map (·.1)) (k : Int) = c := ⟨_, rfl⟩
                  have HC := Lib.hid (count_is qa m4 qc (r.fl.l.map (·.1)) (k : Int) w7 (by rw [List.length_map]; exact HMM.out.2.2.2) (by have := HL2.out; omega) HQ.out.row)
                  rw [hcc] at HC
                  have HLT := Lib.hid (cnt_lt hcc ((hasP_map _ _).trans hF))
                  have HFF := Lib.hid hF
                  clear hcc hF
                  go_wp2_with fail
                  refine HC.out.mono ?_
                  rintro e w9 ⟨rfl, rfl⟩
                  clear HC HQ
                  clear d6 d6n
                  rcases HLT.out with ⟨rfl, d7, d7n⟩ | ⟨rfl, d7, d7n⟩
                  · clear HLT
                    have HF : Hid (formedS L r = false) := Lib.hid (fs_4 (by rw [HTN.out.1, ← HST.out, okPts_drop HY.out, okPt_in HDD.out HEE.out HFF.out]; rfl))
                    go_wp2_with fail
                    go_ret
                    exact ⟨by rw [HF.out]; rfl, HM.out.below⟩
                  · clear HLT
                    have HX : Hid (okPts T r.po.l r.fl.l (k + 1) (L.po.l.drop (k + 1)) = okPts T r.po.l r.fl.l 0 L.po.l) := Lib.hid (by rw [← HST.out, okPts_drop HY.out, okPt_in HDD.out HEE.out HFF.out]; rfl)
                    go_wp2_with fail
                    go_roundg (n2 - (k + 1))
                    case rel => exact ⟨k + 1, by have := HK.out; omega, by go_num, HX.out, HM.out, HS.out⟩
                    case measure => have := HK.out; omega
                · clear HLT
                  have HF : Hid (formedS L r = false) := Lib.hid (fs_4 (by rw [HTN.out.1, ← HST.out, okPts_drop HY.out, okPt_ne HDD.out HEE.out (by decide)]; rfl))
                  go_wp2_with fail
                  go_ret
                  exact ⟨by rw [HF.out]; rfl, HM.out.below⟩
              · clear HLT
                obtain ⟨l1, l2, r1, r2, r3, r5⟩ : wr.cell? ⟨gl, 1, none⟩ = some (.slice (some ⟨xb, off, none⟩) n2 c2) ∧ wr.cell? ⟨gl, 2, none⟩ = some (.slice (some ⟨xs, os, none⟩) n3 c3) ∧ wr.cell? ⟨gr, 1, none⟩ = some (.int .i64 (ks : Int)) ∧ wr.cell? ⟨gr, 2, none⟩ = some (.slice b1 m1 e1) ∧ wr.cell? ⟨gr, 3, none⟩ = some (.slice b2 m2 e2) ∧ wr.cell? ⟨gr, 5, none⟩ = some (.slice b4 m4 e4) := by
                  obtain ⟨x1, x2, x3, x4⟩ := HV.out
                  obtain ⟨y1, y2, y3, y4, y5, y6⟩ := HU.out
                  rw [← x2, ← x3, ← y2, ← y3, ← y4, ← y6]
                  exact ⟨blk_cell HM.out.lay 1 _ rfl, blk_cell HM.out.lay 2 _ rfl, blk_cell HM.out.rt 1 _ rfl, blk_cell HM.out.rt 2 _ rfl, blk_cell HM.out.rt 3 _ rfl, blk_cell HM.out.rt 5 _ rfl⟩
                go_wp2_with fail
                refine (r5points_is b2 m2 e2 r.po.l wr HMM.out.2.1 (by have := HL2.out; omega) (by have := HL2.out; omega) (Q2.out.below HM.out.below)).mono ?_
                rintro e w6 ⟨qa, qn, qc, rfl, hn, hQ, hb⟩
                rw [HMM.out.2.1] at hn
                obtain rfl : m2 = qn := hn.symm
                clear l1 l2 r1 r2 r3 r5
                have hM := HM.out.step hb
                have hS := HS.out.below hb
                clear HM HS hb
                have HM := Lib.hid hM
                have HS := Lib.hid hS
                clear hM hS
                have HQ := Lib.hid hQ
                clear hQ
                obtain ⟨E, hE⟩ : ∃ E, hasP r.po.l k = E := ⟨_, rfl⟩
                obtain ⟨cE, hcc⟩ : ∃ c, cntI (r.po.l.map (·.1)) (k : Int) = c := ⟨_, rfl⟩
                have HC := Lib.hid (count_is qa m2 qc (r.po.l.map (·.1)) (k : Int) w6 (by rw [List.length_map]; exact HMM.out.2.1) (by have := HL2.out; omega) HQ.out.row)
                rw [hcc] at HC
                have HLT := Lib.hid (cnt_lt hcc ((hasP_map _ _).trans hE))
                have HEE := Lib.hid hE
                clear hcc hE
                go_wp2_with fail
                refine HC.out.mono ?_
                rintro e w9 ⟨rfl, rfl⟩
                clear HC HQ
                clear d5 d5n
                rcases HLT.out with ⟨rfl, d6, d6n⟩ | ⟨rfl, d6, d6n⟩
                · clear HLT
                  have HF : Hid (formedS L r = false) := Lib.hid (fs_4 (by rw [HTN.out.1, ← HST.out, okPts_drop HY.out, okPt_ne HDD.out HEE.out (by decide)]; rfl))
                  go_wp2_with fail
                  go_ret
                  exact ⟨by rw [HF.out]; rfl, HM.out.below⟩
                · clear HLT
                  have HX : Hid (okPts T r.po.l r.fl.l (k + 1) (L.po.l.drop (k + 1)) = okPts T r.po.l r.fl.l 0 L.po.l) := Lib.hid (by rw [← HST.out, okPts_drop HY.out, okPt_no HDD.out HEE.out]; rfl)
                  go_wp2_with fail
                  go_roundg (n2 - (k + 1))
                  case rel => exact ⟨k + 1, by have := HK.out; omega, by go_num, HX.out, HM.out, HS.out⟩
                  case measure => have := HK.out; omega
            · have hkm : n2 = k := by omega
              subst hkm
              have HF : Hid (formedS L r = true) := Lib.hid (fs_5 (by rw [HMM.out.1]; exact H0.out) (by rw [HTN.out.1]; exact HD1.out) (by rw [HTN.out.1]; exact HD2.out) (by rw [HTN.out.2, dupN_map]; exact HD3.out) (by rw [HTN.out.1, ← HST.out, okPts_end HNN.out.1]))
              obtain ⟨l1, l2, r1, r2, r3, r5⟩ : wr.cell? ⟨gl, 1, none⟩ = some (.slice a2 n2 c2) ∧ wr.cell? ⟨gl, 2, none⟩ = some (.slice (some ⟨xs, os, none⟩) n3 c3) ∧ wr.cell? ⟨gr, 1, none⟩ = some (.int .i64 (ks : Int)) ∧ wr.cell? ⟨gr, 2, none⟩ = some (.slice b1 m1 e1) ∧ wr.cell? ⟨gr, 3, none⟩ = some (.slice b2 m2 e2) ∧ wr.cell? ⟨gr, 5, none⟩ = some (.slice b4 m4 e4) := by
                obtain ⟨x1, x2, x3, x4⟩ := HV.out
                obtain ⟨y1, y2, y3, y4, y5, y6⟩ := HU.out
                rw [← x2, ← x3, ← y2, ← y3, ← y4, ← y6]
                exact ⟨blk_cell HM.out.lay 1 _ rfl, blk_cell HM.out.lay 2 _ rfl, blk_cell HM.out.rt 1 _ rfl, blk_cell HM.out.rt 2 _ rfl, blk_cell HM.out.rt 3 _ rfl, blk_cell HM.out.rt 5 _ rfl⟩
              go_wp2_with fail
              go_ret
              exact ⟨by rw [HF.out]; rfl, HM.out.below⟩
end Go.Proofs.Ytdkcpejlojdijaa
