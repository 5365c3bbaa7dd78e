/-
  Layer 29: SafetyLess.
-/
import Derived.Test.YthnpekbmaapgnaaSaO
namespace Go.Proofs.Ythnpekbmaapgnaa
open Go.RowKit
set_option maxRecDepth 100000
attribute [local irreducible] ixF Sl.v pairS hasBit mayS Rt.tr Rt.nd checkS pw claI occS lieS turS shI shR withBit outS cycS conflictS
attribute [local irreducible] weightS

set_option maxHeartbeats 8000000 in
theorem safetyLess_is (L : Lay) (ox nx rx p q f : Nat) (ia : Option Addr) (il ic : Nat) (ho : ox < 18446744073709551616) (hp : p < 18446744073709551616) (hf : f < 18446744073709551616) (hq : q < 4294967296) (hn : nx < 4294967296) (hr : rx < 4294967296) (w : World) (hL : LayAt w L) :
    Calls Try.prog 4 #[.agg #[L.se.v, L.po.v, L.sg.v, L.rt.v], .agg #[.int .u64 (ox : Int), .int .u32 (nx : Int), .int .u32 (rx : Int), .slice ia il ic], .agg #[.int .u64 (p : Int), .int .u32 (q : Int)], .int .u64 (f : Int)] w fun e w' => e = .returned (.bool true) ∧ Below w.heap.size w w' := by
  obtain ⟨nN, hN⟩ : ∃ nN, nx &&& (4294967295 - rx) = nN := ⟨_, rfl⟩
  obtain ⟨nV, hV⟩ : ∃ nV, rx &&& (4294967295 - nx) = nV := ⟨_, rfl⟩
  have hN1 : bits .andNot .u32 (nx : Int) (rx : Int) = (nN : Int) := by rw [u32_andNot_nat _ _ hn hr, hN]
  have hV1 : bits .andNot .u32 (rx : Int) (nx : Int) = (nV : Int) := by rw [u32_andNot_nat _ _ hr hn, hV]
  have hN2 : nN < 4294967296 := by rw [← hN]; exact Nat.lt_of_le_of_lt Nat.and_le_left hn
  have hV2 : nV < 4294967296 := by rw [← hV]; exact Nat.lt_of_le_of_lt Nat.and_le_left hr
  obtain ⟨n1, hn1⟩ : ∃ n, L.se.l.length = n := ⟨_, rfl⟩
  obtain ⟨n2, hn2⟩ : ∃ n, L.po.l.length = n := ⟨_, rfl⟩
  obtain ⟨n3, hn3⟩ : ∃ n, L.sg.l.length = n := ⟨_, rfl⟩
  obtain ⟨n4, hn4⟩ : ∃ n, L.rt.l.length = n := ⟨_, rfl⟩
  obtain ⟨T, hT⟩ : ∃ T, T = min n2 32 := ⟨_, rfl⟩
  obtain ⟨q2, hq2⟩ : ∃ x, q &&& (pw T - 1) = x := ⟨_, rfl⟩
  obtain ⟨p2, hp2⟩ : ∃ x, p &&& f = x := ⟨_, rfl⟩
  have hq2b : q2 < 4294967296 := by rw [← hq2]; exact Nat.lt_of_le_of_lt Nat.and_le_left hq
  have hp2b : p2 < 18446744073709551616 := by rw [← hp2]; exact Nat.lt_of_le_of_lt Nat.and_le_left hp
  obtain ⟨v1, hv1⟩ : ∃ v, cycS L ox nN nV p q = v := ⟨_, rfl⟩
  obtain ⟨v2, hv2⟩ : ∃ v, cycS L ox nN nV p2 q = v := ⟨_, rfl⟩
  obtain ⟨v3, hv3⟩ : ∃ v, cycS L ox nN nV 0 q2 = v := ⟨_, rfl⟩
  obtain ⟨c, hc⟩ : ∃ c, (checkS L).1 = c := ⟨_, rfl⟩
  obtain ⟨d, hd⟩ : ∃ c, (checkS L).2 = c := ⟨_, rfl⟩
  obtain ⟨z, hz⟩ : ∃ z, weightS 400 L = z := ⟨_, rfl⟩
  have H12 : Hid (v1 = 0 → v2 = 0) := Lib.hid (fun h => by rw [← hv2, ← hp2]; exact cyc_less (hv1.trans h))
  have H3 : Hid ((v3 = 0) ↔ (c = 0)) := Lib.hid ⟨fun h => by rw [← hc]; exact (cyc_parts (hv3.trans h)).1, fun h => by
    rw [← hv3]
    have h1 := hc.trans h
    have := mayS_small (cs_zero h1)
    refine cyc_none h1 ?_
    have h2 : T = L.po.l.length := by omega
    rw [← hq2, h2]
    have := pw_pos L.po.l.length
    exact Nat.lt_of_le_of_lt Nat.and_le_right (by omega)⟩
  have HC1 : Hid (∀ V, Below w.heap.size w V → Calls Try.prog 9 #[.agg #[L.se.v, L.po.v, L.sg.v, L.rt.v], .agg #[.int .u64 (ox : Int), .int .u32 (nx : Int), .int .u32 (rx : Int), .slice ia il ic], .agg #[.int .u64 (p : Int), .int .u32 (q : Int)]] V fun e w' => e = .returned (.int .u8 (v1 : Int)) ∧ Below V.heap.size V w') := Lib.hid (fun V hV' => scycle_is v1 L ox nx rx p q nN nV ia il ic ho hp hq hN1 hV1 hN2 hV2 hv1 V (hL.below hV'))
  have HC2 : Hid (∀ V, Below w.heap.size w V → Calls Try.prog 9 #[.agg #[L.se.v, L.po.v, L.sg.v, L.rt.v], .agg #[.int .u64 (ox : Int), .int .u32 (nx : Int), .int .u32 (rx : Int), .slice ia il ic], .agg #[.int .u64 (p2 : Int), .int .u32 (q : Int)]] V fun e w' => e = .returned (.int .u8 (v2 : Int)) ∧ Below V.heap.size V w') := Lib.hid (fun V hV' => scycle_is v2 L ox nx rx p2 q nN nV ia il ic ho hp2b hq hN1 hV1 hN2 hV2 hv2 V (hL.below hV'))
  have HC3 : Hid (∀ V, Below w.heap.size w V → Calls Try.prog 9 #[.agg #[L.se.v, L.po.v, L.sg.v, L.rt.v], .agg #[.int .u64 (ox : Int), .int .u32 (nx : Int), .int .u32 (rx : Int), .slice ia il ic], .agg #[.int .u64 0, .int .u32 (q2 : Int)]] V fun e w' => e = .returned (.int .u8 (v3 : Int)) ∧ Below V.heap.size V w') := Lib.hid (fun V hV' => scycle_is v3 L ox nx rx 0 q2 nN nV ia il ic ho (by omega) hq2b hN1 hV1 hN2 hV2 hv3 V (hL.below hV'))
  have HCK : Hid (∀ V, Below w.heap.size w V → Calls Try.prog 12 #[.agg #[L.se.v, L.po.v, L.sg.v, L.rt.v]] V fun e w' => e = .returned (.tuple #[.int .i64 c, .int .i64 d]) ∧ Below V.heap.size V w') := Lib.hid (fun V hV' => hc ▸ hd ▸ rcheck_is L V (hL.below hV'))
  have HW : Hid (∀ V, Below w.heap.size w V → Calls Try.prog 8 #[.agg #[L.se.v, L.po.v, L.sg.v, L.rt.v], .int .i64 400] V fun e w' => e = .returned (.int .i64 z) ∧ Below V.heap.size V w') := Lib.hid (fun V hV' => hz ▸ weight_is 400 L V (hL.below hV'))
  have HQ2 := Lib.hid hq2
  have HP2 := Lib.hid hp2
  have HTT := Lib.hid hT
  have HMIN : Hid (min (n2 : Int) 32 = (T : Int)) := Lib.hid (by rw [hT]; omega)
  have HFT : Hid ((T : Int) = max 0 (min (T : Int) 64)) := Lib.hid (by omega)
  have hTP : pw T ≤ 4294967296 := by
    have := Nat.pow_le_pow_right (n := 2) (show 0 < 2 by omega) (show T ≤ 32 by omega)
    rw [pw_eq]; simpa using this
  have HWR : Hid (IntKind.u32.wrap ((pw T - 1 : Nat) : Int) = ((pw T - 1 : Nat) : Int)) := Lib.hid (by rw [IntKind.wrap_u32]; have := pw_pos T; omega)
  have HQA : Hid (bits .and .u32 (q : Int) ((pw T - 1 : Nat) : Int) = (q2 : Int)) := Lib.hid (by rw [u32_and_nat _ _ hq (by have := pw_pos T; omega), hq2])
  clear hTP
  have HPA : Hid (bits .and .u64 (p : Int) (f : Int) = (p2 : Int)) := Lib.hid (by rw [u64_and_nat _ _ hp hf, hp2])
  rw [slv hn1, slv hn2, slv hn3, slv hn4] at HC1 HC2 HC3 HCK HW
  rw [slv hn1, slv hn2, slv hn3, slv hn4]
  clear hn1 hn2 hn3 hn4 hL ho hp hf hq hn hr hN hV hN1 hV1 hN2 hV2 hv1 hv2 hv3 hc hd hz hq2 hp2 hT hq2b hp2b
  go_enter Try.func4, Try.ntmps4
  go_upto_region 1 with fail
  refine name_last (os := [.cells #[.slice L.se.a n1 L.se.c, .slice L.po.a n2 L.po.c, .slice L.sg.a n3 L.sg.c, .slice L.rt.a n4 L.rt.c] 27, .cells #[.int .u64 (ox : Int), .int .u32 (nx : Int), .int .u32 (rx : Int), .slice ia il ic] 32, .cells #[.int .u64 (p : Int), .int .u32 (q : Int)] 34]) (w0 := w) rfl ?_
  intro W hat hbw
  obtain ⟨gl, hgl⟩ : ∃ g, g = w.heap.size := ⟨_, rfl⟩
  obtain ⟨gi, hgi⟩ : ∃ g, g = gl + 1 := ⟨_, rfl⟩
  obtain ⟨go, hgo⟩ : ∃ g, g = gi + 1 := ⟨_, rfl⟩
  have q0 := hat 0 _ rfl
  have q1 := hat 1 _ rfl
  have q2 := hat 2 _ rfl
  rw [Nat.add_zero, ← hgl] at q0
  rw [← hgl, ← hgi] at q1
  rw [show w.heap.size + 2 = go by omega] at q2
  rw [← hgl, ← hgi, ← hgo]
  have HQL := Lib.hid q0
  have HQI := Lib.hid q1
  have HQO := Lib.hid q2
  have HB0 := Lib.hid hbw
  clear hat hbw hgl hgi hgo q0 q1 q2
  by_cases h1 : 400 < z
  · obtain ⟨l0, l1, l2, l3⟩ := box4c HQL.out
    go_wp2_with fail
    refine (HW.out _ HB0.out).mono ?_
    rintro e w1 ⟨rfl, hb⟩
    have HB1 := Lib.hid (below_on HB0.out hb)
    clear hb l0 l1 l2 l3
    go_wp2_with fail
    refine (works_is _).mono ?_
    rintro e w2 ⟨rfl, hb⟩
    have HB2 := Lib.hid (below_on HB1.out hb)
    clear hb
    go_wp2_with fail
    go_ret
    exact ⟨rfl, HB2.out⟩
  by_cases h2 : (100 : Int) < il
  · obtain ⟨l0, l1, l2, l3⟩ := box4c HQL.out
    go_wp2_with fail
    refine (HW.out _ HB0.out).mono ?_
    rintro e w1 ⟨rfl, hb⟩
    have HB1 := Lib.hid (below_on HB0.out hb)
    obtain ⟨i0, i1, i2, i3⟩ := box4c (blk_keep hb HQI.out)
    clear hb l0 l1 l2 l3
    go_wp2_with fail
    refine (works_is _).mono ?_
    rintro e w2 ⟨rfl, hb⟩
    have HB2 := Lib.hid (below_on HB1.out hb)
    clear hb i0 i1 i2 i3
    go_wp2_with fail
    go_ret
    exact ⟨rfl, HB2.out⟩
  obtain ⟨l0, l1, l2, l3⟩ := box4c HQL.out
  go_wp2_with fail
  refine (HW.out _ HB0.out).mono ?_
  rintro e w1 ⟨rfl, hb⟩
  have HB1 := Lib.hid (below_on HB0.out hb)
  obtain ⟨i0, i1, i2, i3⟩ := box4c (blk_keep hb HQI.out)
  have o0 := blk_cell (blk_keep hb HQO.out) 0 _ rfl
  have o1 := blk_cell (blk_keep hb HQO.out) 1 _ rfl
  have HQL1 := Lib.hid (blk_keep hb HQL.out)
  have HQI1 := Lib.hid (blk_keep hb HQI.out)
  have HQO1 := Lib.hid (blk_keep hb HQO.out)
  clear hb l0 l1 l2 l3
  go_upto_region 4 with fail
  have hbx := below1 w1 (.cells #[.int .u64 (p : Int), .int .u32 (q : Int)] 34)
  have hqx := alloc1 w1 (.cells #[.int .u64 (p : Int), .int .u32 (q : Int)] 34) (Below.refl _ _)
  obtain ⟨w2, hw2⟩ : ∃ V, V = w1.alloc (.cells #[.int .u64 (p : Int), .int .u32 (q : Int)] 34) := ⟨_, rfl⟩
  rw [← hw2] at hbx hqx ⊢
  obtain ⟨g9, hg9⟩ : ∃ g, g = w1.heap.size := ⟨_, rfl⟩
  have HG9 : Hid (w.heap.size ≤ g9) := Lib.hid (by have := HB1.out.size; omega)
  rw [← hg9] at hqx ⊢
  have HB2 := Lib.hid (below_on HB1.out hbx)
  have HQL2 := Lib.hid (blk_keep hbx HQL1.out)
  have HQI2 := Lib.hid (blk_keep hbx HQI1.out)
  have HQO2 := Lib.hid (blk_keep hbx HQO1.out)
  have HQ9 := Lib.hid hqx
  have HG1 : Hid (gl ≠ g9 ∧ gi ≠ g9 ∧ go ≠ g9) := Lib.hid (by have h1 := blk_lt HQL1.out; have h2 := blk_lt HQI1.out; have h3 := blk_lt HQO1.out; omega)
  have ca := blk_cell hqx 0 _ rfl
  have fa := blk_free hqx 0
  have hpa := HPA.out
  have o0 := blk_cell (blk_keep hbx HQO1.out) 0 _ rfl
  have o1 := blk_cell (blk_keep hbx HQO1.out) 1 _ rfl
  clear hbx hqx hw2 hg9 i0 i1 i2 i3
  go_upto_region 5 with fail
  refine name_K ?_
  intro w3 hw3
  have ho3 : Only g9 w2 w3 := by rw [hw3]; exact (Only.refl g9 w2).setCell rfl _
  have HQ93 : Hid (w3.heap[g9]? = some (.cells #[.int .u64 (p2 : Int), .int .u32 (q : Int)] 34)) := Lib.hid (by rw [hw3]; exact blk_set HQ9.out 0 _)
  have HB3 := Lib.hid (Only.below HB2.out HG9.out HB2.out.size ho3)
  have HQL3 := Lib.hid (ho3.keep HG1.out.1 HQL2.out)
  have HQI3 := Lib.hid (ho3.keep HG1.out.2.1 HQI2.out)
  have HQO3 := Lib.hid (ho3.keep HG1.out.2.2 HQO2.out)
  clear hw3 ho3 ca fa hpa o0 o1
  go_upto_region 5 with fail
  go_cut [29, 30, 31, 32, 33, 34, 35, 36, 37, 38, 39, 40] (fun _s29 _s30 _s31 _s32 _s33 _s34 _s35 _s36 _s37 _s38 _s39 s40 wx => s40 = .bool false ∧ Below w3.heap.size w3 wx)
  case first =>
    obtain ⟨l0, l1, l2, l3⟩ := box4c HQL3.out
    obtain ⟨i0, i1, i2, i3⟩ := box4c HQI3.out
    have o0 := blk_cell HQO3.out 0 _ rfl
    have o1 := blk_cell HQO3.out 1 _ rfl
    by_cases hv : v1 = 0
    · have h2 := H12.out hv
      subst hv
      subst h2
      go_wp2_with fail
      refine (HC1.out _ HB3.out).mono ?_
      rintro e w4 ⟨rfl, hb⟩
      have HB4 := Lib.hid hb
      clear l0 l1 l2 l3 i0 i1 i2 i3 o0 o1
      obtain ⟨l0, l1, l2, l3⟩ := box4c (blk_keep hb HQL3.out)
      obtain ⟨i0, i1, i2, i3⟩ := box4c (blk_keep hb HQI3.out)
      have n0 := blk_cell (blk_keep hb HQ93.out) 0 _ rfl
      have n1 := blk_cell (blk_keep hb HQ93.out) 1 _ rfl
      clear hb
      go_wp2_with fail
      refine (HC2.out _ (below_on HB3.out HB4.out)).mono ?_
      rintro e w5 ⟨rfl, hb⟩
      have HB5 := Lib.hid (below_on HB4.out hb)
      clear hb l0 l1 l2 l3 i0 i1 i2 i3 n0 n1
      go_wp2_with fail
      go_meet
      exact ⟨rfl, HB5.out⟩
    · have hv2 : ((v1 : Int) == 0) = false := by rw [beq_eq_false_iff_ne]; omega
      clear hv
      go_wp2_with fail
      refine (HC1.out _ HB3.out).mono ?_
      rintro e w4 ⟨rfl, hb⟩
      have HB4 := Lib.hid hb
      clear hb l0 l1 l2 l3 i0 i1 i2 i3 o0 o1
      go_wp2_with fail
      go_meet
      exact ⟨rfl, HB4.out⟩
  case rest =>
  obtain ⟨rfl, hbc⟩ := hcut
  have HBC := Lib.hid (below_on HB3.out hbc)
  have HQLc := Lib.hid (blk_keep hbc HQL3.out)
  have HQIc := Lib.hid (blk_keep hbc HQI3.out)
  have HQOc := Lib.hid (blk_keep hbc HQO3.out)
  clear hbc
  obtain ⟨l0, l1, l2, l3⟩ := box4c HQLc.out
  go_wp2_with fail
  refine (HCK.out _ HBC.out).mono ?_
  rintro e w6 ⟨rfl, hb⟩
  have HB6 := Lib.hid (below_on HBC.out hb)
  have HQL6 := Lib.hid (blk_keep hb HQLc.out)
  have HQI6 := Lib.hid (blk_keep hb HQIc.out)
  have HQO6 := Lib.hid (blk_keep hb HQOc.out)
  clear hb l0 l1 l2 l3
  go_upto_region 8 with fail
  have hmin := HMIN.out
  have hwr := HWR.out
  have hqa := HQA.out
  have HS : Hid (∀ w', Below w6.heap.size w6 w' → w'.cell? ⟨go, 1, none⟩ = some (.int .u32 (q : Int)) ∧ w'.cell? ⟨gl, 1, none⟩ = some (.slice L.po.a n2 L.po.c)) := Lib.hid (fun w' hw' => ⟨blk_cell (blk_keep hw' HQO6.out) 1 _ rfl, blk_cell (blk_keep hw' HQL6.out) 1 _ rfl⟩)
  have HBA : Hid (∀ o, Below w6.heap.size w6 (w6.alloc o).drew) := Lib.hid (fun o => (below1 w6 o).drew)
  have HBN : Hid (∀ o, (w6.alloc o).drew.heap[w6.heap.size]? = some o) := Lib.hid (fun o => alloc1 w6 o (Below.refl _ _).drew)
  go_region_held3 (fun w' => w'.cell? ⟨go, 1, none⟩ = some (.int .u32 (q : Int)) ∧ w'.cell? ⟨gl, 1, none⟩ = some (.slice L.po.a n2 L.po.c))
    (first | exact HS.out _ (HBA.out _) | exact HS.out _ (Below.refl _ w6) | exact HS.out _ (Below.refl _ w6).drew | exact HS.out _ (by assumption))
    (first
      | ((with_reducible refine (first_any _ T _ HFT.out).mono ?_); rintro e v1 ⟨rfl, rfl⟩))
  all_goals
    have hbx := HBA.out (.cells #[.int .u64 0, .int .u32 (q2 : Int)] 34)
    have hqx := HBN.out (.cells #[.int .u64 0, .int .u32 (q2 : Int)] 34)
    clear HBA HBN HS hmin hwr hqa
    obtain ⟨w7, hw7⟩ : ∃ V, V = (w6.alloc (.cells #[.int .u64 0, .int .u32 (q2 : Int)] 34)).drew := ⟨_, rfl⟩
    rw [← hw7] at hbx hqx ⊢
    obtain ⟨g12, hg12⟩ : ∃ g, g = w6.heap.size := ⟨_, rfl⟩
    rw [← hg12] at hqx ⊢
    clear hw7 hg12
    have HB7 := Lib.hid (below_on HB6.out hbx)
    obtain ⟨l0, l1, l2, l3⟩ := box4c (blk_keep hbx HQL6.out)
    obtain ⟨i0, i1, i2, i3⟩ := box4c (blk_keep hbx HQI6.out)
    have n0 := blk_cell hqx 0 _ rfl
    have n1 := blk_cell hqx 1 _ rfl
    clear hbx hqx
    by_cases hc0 : c = 0
    · have hv0 := H3.out.2 hc0
      subst hc0
      subst hv0
      go_wp2_with fail
      refine (HC3.out _ HB7.out).mono ?_
      rintro e w8 ⟨rfl, hb⟩
      have HB8 := Lib.hid (below_on HB7.out hb)
      clear hb l0 l1 l2 l3 i0 i1 i2 i3 n0 n1
      go_wp2_with fail
      refine (works_is _).mono ?_
      rintro e w9 ⟨rfl, hb⟩
      have HB9 := Lib.hid (below_on HB8.out hb)
      clear hb
      go_wp2_with fail
      go_ret
      exact ⟨rfl, HB9.out⟩
    · have hv0 : ((v3 : Int) == 0) = false := by
        rw [beq_eq_false_iff_ne]
        intro h
        exact hc0 (H3.out.1 (by omega))
      have hc1 : (c == 0) = false := by rw [beq_eq_false_iff_ne]; exact hc0
      clear hc0
      go_wp2_with fail
      refine (HC3.out _ HB7.out).mono ?_
      rintro e w8 ⟨rfl, hb⟩
      have HB8 := Lib.hid (below_on HB7.out hb)
      clear hb l0 l1 l2 l3 i0 i1 i2 i3 n0 n1
      go_wp2_with fail
      refine (works_is _).mono ?_
      rintro e w9 ⟨rfl, hb⟩
      have HB9 := Lib.hid (below_on HB8.out hb)
      clear hb
      go_wp2_with fail
      go_ret
      exact ⟨rfl, HB9.out⟩
end Go.Proofs.Ythnpekbmaapgnaa
