/-
  Layer 29: the document's Cycle.
-/
import Derived.Test.YthnpekbmaapgnaaSaKp
namespace Go.Proofs.Ythnpekbmaapgnaa
open Go.RowKit
set_option maxRecDepth 100000
attribute [local irreducible] ixF Sl.v pairS hasBit mayS Rt.tr Rt.nd checkS pw claI occS lieS turS shI shR withBit outS cycS conflictS

set_option maxHeartbeats 16000000 in
theorem rcycle_is (z : Nat) (L : Lay) (ox nx rx p q nN nV : Nat) (ia : Option Addr) (il ic : Nat) (ho : ox < 18446744073709551616) (hp : p < 18446744073709551616) (hq : q < 4294967296) (hN : bits .andNot .u32 (nx : Int) (rx : Int) = (nN : Int)) (hV : bits .andNot .u32 (rx : Int) (nx : Int) = (nV : Int)) (hN2 : nN < 4294967296) (hV2 : nV < 4294967296)
    (hz : cycS L ox nN nV p q = z) (w : World) (hL : LayAt w L) :
    Calls Try.prog 10 #[.agg #[L.se.v, L.po.v, L.sg.v, L.rt.v], .agg #[.int .u64 (ox : Int), .int .u32 (nx : Int), .int .u32 (rx : Int), .slice ia il ic], .agg #[.int .u64 (p : Int), .int .u32 (q : Int)]] w fun e w' => e = .returned (.int .u8 (z : Int)) ∧ Below w.heap.size w w' := by
  obtain ⟨c, hc1⟩ : ∃ c, (checkS L).1 = c := ⟨_, rfl⟩
  obtain ⟨d, hd1⟩ : ∃ c, (checkS L).2 = c := ⟨_, rfl⟩
  have HCK : Hid (∀ W, Below w.heap.size w W → Calls Try.prog 12 #[.agg #[L.se.v, L.po.v, L.sg.v, L.rt.v]] W fun e w' => e = .returned (.tuple #[.int .i64 c, .int .i64 d]) ∧ Below W.heap.size W w') := Lib.hid (fun W hW => hc1 ▸ hd1 ▸ rcheck_is L W (hL.below hW))
  have HSD : Hid (∀ W, Calls Try.prog 38 #[.agg #[.int .u64 (ox : Int), .int .u32 (nx : Int), .int .u32 (rx : Int), .slice ia il ic]] W fun e w' => e = .returned (.tuple #[.int .u32 (nN : Int), .int .u32 (nV : Int)]) ∧ Below W.heap.size W w') := Lib.hid (fun W => by have h := refsides_any ox nx rx ia il ic W; rw [hN, hV] at h; exact h)
  have HSH : Hid (L.rt.l.length ≤ 64 → ∀ W, Below w.heap.size w W → Calls Try.prog 37 #[.agg #[L.se.v, L.po.v, L.sg.v, L.rt.v], .agg #[.int .u64 (p : Int), .int .u32 (q : Int)]] W fun e w' => ∃ x c, e = .returned (.slice x (shR L p L.rt.l.length).length c) ∧ RowAt 6 rtC w' x (shR L p L.rt.l.length) ∧ Below W.heap.size W w') := Lib.hid (fun hs W hW => rshown_is L p q hp W (hL.below hW) hs)
  have HCL : Hid (mayS L = true → ∀ (xa : Option Addr) (m c : Nat) (z : Bool), (shR L p L.rt.l.length).length = m → m ≤ 64 → claR L (shR L p L.rt.l.length) = z → ∀ W, Below w.heap.size w W → RowAt 6 rtC W xa (shR L p L.rt.l.length) → Calls Try.prog 39 #[.agg #[L.se.v, L.po.v, L.sg.v, L.rt.v], .slice xa m c] W fun e w' => e = .returned (.bool z) ∧ Below W.heap.size W w') := Lib.hid (fun hm xa m c z hlen hm64 hz W hW hrow => rclash_is z L _ xa m c hz W (hL.below hW) (fun r hr => (hL.rn r (shR_mem r hr)).below hW) hrow (le_tr hm) (le_nd hm) hlen hm64)
  have HLW := Lib.hid hL
  have HC1 := Lib.hid hc1
  have HZ := Lib.hid hz
  have HP := Lib.hid hp
  have HO := Lib.hid ho
  have HQ2 := Lib.hid hq
  have HNV := Lib.hid (And.intro hN2 hV2)
  obtain ⟨n1, hn1⟩ : ∃ n, L.se.l.length = n := ⟨_, rfl⟩
  obtain ⟨n2, hn2⟩ : ∃ n, L.po.l.length = n := ⟨_, rfl⟩
  obtain ⟨n3, hn3⟩ : ∃ n, L.sg.l.length = n := ⟨_, rfl⟩
  obtain ⟨n4, hn4⟩ : ∃ n, L.rt.l.length = n := ⟨_, rfl⟩
  have HN4 := Lib.hid hn4
  have HN2 := Lib.hid hn2
  rw [slv hn1, slv hn2, slv hn3, slv hn4, hn4] at HSH HCL
  rw [slv hn1, slv hn2, slv hn3, slv hn4] at HCK
  rw [slv hn1, slv hn2, slv hn3, slv hn4]
  clear hn1 hn2 hn3 hn4 hL hc1 hd1 hz hp ho hq hN hV hN2 hV2
  go_enter Try.func10, Try.ntmps10
  go_upto_region 1 with fail
  refine name_last (os := [.cells #[.slice L.se.a n1 L.se.c, .slice L.po.a n2 L.po.c, .slice L.sg.a n3 L.sg.c, .slice L.rt.a n4 L.rt.c] 27, .cells #[.int .u64 (ox : Int), .int .u32 (nx : Int), .int .u32 (rx : Int), .slice ia il ic] 32, .cells #[.int .u64 (p : Int), .int .u32 (q : Int)] 34]) (w0 := w) rfl ?_
  intro W0 hat hbw
  obtain ⟨gl, hgl⟩ : ∃ g, g = w.heap.size := ⟨_, rfl⟩
  obtain ⟨gi, hgi⟩ : ∃ g, g = gl + 1 := ⟨_, rfl⟩
  obtain ⟨go, hgo⟩ : ∃ g, g = gi + 1 := ⟨_, rfl⟩
  have q0 := hat 0 _ rfl
  have q1 := hat 1 _ rfl
  have q2 := hat 2 _ rfl
  rw [Nat.add_zero, ← hgl] at q0
  rw [← hgl, ← hgi] at q1
  rw [show w.heap.size + 2 = go by omega] at q2
  rw [← hgl, ← hgi, ← hgo]
  have HQL := Lib.hid q0
  have HQI := Lib.hid q1
  have HQO := Lib.hid q2
  have HB0 := Lib.hid hbw
  obtain ⟨l0, l1, l2, l3⟩ := box4c q0
  clear hat hbw hgl hgi hgo q0 q1 q2
  go_wp2_with fail
  refine (HCK.out _ HB0.out).mono ?_
  rintro e w1 ⟨rfl, hb⟩
  have HB1 := Lib.hid hb
  clear hb l0 l1 l2 l3 HCK
  by_cases hc0 : c = 0
  rotate_left
  · have HT := Lib.hid (HZ.out.symm.trans (cyc_1 (by rw [HC1.out]; exact hc0)))
    go_wp2_with fail
    go_ret
    exact ⟨by rw [HT.out]; rfl, below_on HB0.out HB1.out⟩
  subst hc0
  have HM : Hid (mayS L = true) := Lib.hid (cs_zero HC1.out)
  have HS4 : Hid (n4 ≤ 64) := Lib.hid (by have := mayS_small HM.out; have := HN4.out; omega)
  have HS2 : Hid (n2 ≤ 32) := Lib.hid (by have := mayS_small HM.out; have := HN2.out; omega)
  obtain ⟨l0, l1, l2, l3⟩ := box4c (blk_keep HB1.out HQL.out)
  have o0 := blk_cell (blk_keep HB1.out HQO.out) 0 _ rfl
  have o1 := blk_cell (blk_keep HB1.out HQO.out) 1 _ rfl
  obtain ⟨b1, hb1⟩ : ∃ b, (!decide (p / pw n4 = 0)) = b := ⟨_, rfl⟩
  obtain ⟨b2, hb2⟩ : ∃ b, (!decide (q / pw n2 = 0)) = b := ⟨_, rfl⟩
  have f1 := ((notFirst64 p n4 HP.out HS4.out).trans (out_lt p n4)).trans hb1
  have f2 := ((notFirst32 q n2 HQ2.out HS2.out).trans (out_lt q n2)).trans hb2
  have f3 : IntKind.u32.wrap ((pw n2 - 1 : Nat) : Int) = ((pw n2 - 1 : Nat) : Int) := by
    rw [IntKind.wrap_u32]
    have h1 : pw n2 ≤ 4294967296 := by
      have := Nat.pow_le_pow_right (n := 2) (by omega) HS2.out
      rw [pw_eq]; simpa using this
    have h2 := pw_pos n2
    omega
  have HOUT : Hid (outS L p q = (b1 || b2)) := Lib.hid (by unfold outS; rw [HN4.out, HN2.out, hb1, hb2])
  have HF4 : Hid ((n4 : Int) = max 0 (min (n4 : Int) 64)) := Lib.hid (by have := HS4.out; omega)
  have HF2 : Hid ((n2 : Int) = max 0 (min (n2 : Int) 64)) := Lib.hid (by have := HS2.out; omega)
  clear hb1 hb2 l0 l1 l2 l3 o0 o1
  have KF4 : Hid (∀ w', Below w1.heap.size w1 w' → Calls Try.prog 13 #[.int .i64 (n4 : Int)] w' fun e w'' => e = .returned (.int .u64 ((pw n4 - 1 : Nat) : Int)) ∧ Below w1.heap.size w1 w'') := Lib.hid (fun w' hw' => (first_any _ n4 w' HF4.out).mono (fun _ _ h => ⟨h.1, h.2 ▸ hw'⟩))
  have KF2 : Hid (∀ w', Below w1.heap.size w1 w' → Calls Try.prog 13 #[.int .i64 (n2 : Int)] w' fun e w'' => e = .returned (.int .u64 ((pw n2 - 1 : Nat) : Int)) ∧ Below w1.heap.size w1 w'') := Lib.hid (fun w' hw' => (first_any _ n2 w' HF2.out).mono (fun _ _ h => ⟨h.1, h.2 ▸ hw'⟩))
  have HQL1 := Lib.hid (blk_keep HB1.out HQL.out)
  have HQO1 := Lib.hid (blk_keep HB1.out HQO.out)
  cases b1
  rotate_left
  · have HT := Lib.hid (HZ.out.symm.trans (cyc_2 HC1.out (by rw [HOUT.out]; rfl)))
    go_upto_region 4 with fail
    refine wp_region_calm (by kernel_rfl) ?_ ?_
    · kernel_rfl
    repeat first
     | go_big_quiet_skip
     | (go_big_quiet_want; go_big_quiet_op; go_big_quiet_on)
     | (with_reducible apply wpQuiet_step
        intro K hK
        go_simp
        first
          | (refine hK _ ?_; clear hK K)
          | (apply Exists.intro
             refine ⟨fun w' hw' => ?_, hK _ ?_⟩
             ·
               (first
                | with_reducible exact KF4.out _ hw'
                | with_reducible exact KF2.out _ hw'
                | (have g0 := blk_cell (blk_keep hw' HQL1.out) 0 _ rfl
                   have g1 := blk_cell (blk_keep hw' HQL1.out) 1 _ rfl
                   have g2 := blk_cell (blk_keep hw' HQL1.out) 2 _ rfl
                   have g3 := blk_cell (blk_keep hw' HQL1.out) 3 _ rfl
                   go_simp
                   first | done | with_reducible exact rfl | with_reducible exact ⟨rfl, rfl⟩ | with_reducible exact KF4.out _ hw' | with_reducible exact KF2.out _ hw')
                | (have g0 := blk_cell (blk_keep hw' HQO1.out) 0 _ rfl
                   have g1 := blk_cell (blk_keep hw' HQO1.out) 1 _ rfl
                   go_simp
                   first | done | with_reducible exact rfl | with_reducible exact ⟨rfl, rfl⟩ | with_reducible exact KF4.out _ hw' | with_reducible exact KF2.out _ hw'))
             clear hK K))
    refine wpQuiet_nil ?_
    intro w7 hw7
    have HB7 := Lib.hid (below_on HB1.out hw7)
    clear hw7
    go_wp2_with fail
    go_ret
    exact ⟨by rw [HT.out]; rfl, below_on HB0.out HB7.out⟩
  cases b2
  rotate_left
  · have HT := Lib.hid (HZ.out.symm.trans (cyc_2 HC1.out (by rw [HOUT.out]; rfl)))
    go_upto_region 4 with fail
    refine wp_region_calm (by kernel_rfl) ?_ ?_
    · kernel_rfl
    repeat first
     | go_big_quiet_skip
     | (go_big_quiet_want; go_big_quiet_op; go_big_quiet_on)
     | (with_reducible apply wpQuiet_step
        intro K hK
        go_simp
        first
          | (refine hK _ ?_; clear hK K)
          | (apply Exists.intro
             refine ⟨fun w' hw' => ?_, hK _ ?_⟩
             ·
               (first
                | with_reducible exact KF4.out _ hw'
                | with_reducible exact KF2.out _ hw'
                | (have g0 := blk_cell (blk_keep hw' HQL1.out) 0 _ rfl
                   have g1 := blk_cell (blk_keep hw' HQL1.out) 1 _ rfl
                   have g2 := blk_cell (blk_keep hw' HQL1.out) 2 _ rfl
                   have g3 := blk_cell (blk_keep hw' HQL1.out) 3 _ rfl
                   go_simp
                   first | done | with_reducible exact rfl | with_reducible exact ⟨rfl, rfl⟩ | with_reducible exact KF4.out _ hw' | with_reducible exact KF2.out _ hw')
                | (have g0 := blk_cell (blk_keep hw' HQO1.out) 0 _ rfl
                   have g1 := blk_cell (blk_keep hw' HQO1.out) 1 _ rfl
                   go_simp
                   first | done | with_reducible exact rfl | with_reducible exact ⟨rfl, rfl⟩ | with_reducible exact KF4.out _ hw' | with_reducible exact KF2.out _ hw'))
             clear hK K))
    refine wpQuiet_nil ?_
    intro w7 hw7
    have HB7 := Lib.hid (below_on HB1.out hw7)
    clear hw7
    go_wp2_with fail
    go_ret
    exact ⟨by rw [HT.out]; rfl, below_on HB0.out HB7.out⟩
  have HOUF : Hid (outS L p q = false) := Lib.hid HOUT.out
  go_upto_region 4 with fail
  refine wp_region_calm (by kernel_rfl) ?_ ?_
  · kernel_rfl
  repeat first
   | go_big_quiet_skip
   | (go_big_quiet_want; go_big_quiet_op; go_big_quiet_on)
   | (with_reducible apply wpQuiet_step
      intro K hK
      go_simp
      first
        | (refine hK _ ?_; clear hK K)
        | (apply Exists.intro
           refine ⟨fun w' hw' => ?_, hK _ ?_⟩
           ·
             (first
              | with_reducible exact KF4.out _ hw'
              | with_reducible exact KF2.out _ hw'
              | (have g0 := blk_cell (blk_keep hw' HQL1.out) 0 _ rfl
                 have g1 := blk_cell (blk_keep hw' HQL1.out) 1 _ rfl
                 have g2 := blk_cell (blk_keep hw' HQL1.out) 2 _ rfl
                 have g3 := blk_cell (blk_keep hw' HQL1.out) 3 _ rfl
                 go_simp
                 first | done | with_reducible exact rfl | with_reducible exact ⟨rfl, rfl⟩ | with_reducible exact KF4.out _ hw' | with_reducible exact KF2.out _ hw')
              | (have g0 := blk_cell (blk_keep hw' HQO1.out) 0 _ rfl
                 have g1 := blk_cell (blk_keep hw' HQO1.out) 1 _ rfl
                 go_simp
                 first | done | with_reducible exact rfl | with_reducible exact ⟨rfl, rfl⟩ | with_reducible exact KF4.out _ hw' | with_reducible exact KF2.out _ hw'))
           clear hK K))
  refine wpQuiet_nil ?_
  intro w7 hw7
  have HB7 := Lib.hid (below_on HB1.out hw7)
  clear hw7
  clear f1 f2 f3
  obtain ⟨l0, l1, l2, l3⟩ := box4c (blk_keep HB7.out HQL.out)
  have o0 := blk_cell (blk_keep HB7.out HQO.out) 0 _ rfl
  have o1 := blk_cell (blk_keep HB7.out HQO.out) 1 _ rfl
  go_wp2_with fail
  refine (HSH.out HS4.out _ (below_on HB0.out HB7.out)).mono ?_
  rintro e w8 ⟨x9, c9, rfl, hrow, hb⟩
  have HR8 := Lib.hid hrow
  have HB8 := Lib.hid (below_on HB7.out hb)
  obtain ⟨m, hm⟩ : ∃ m, (shR L p n4).length = m := ⟨_, rfl⟩
  rw [hm]
  have HMM := Lib.hid hm
  have HM64 : Hid (m ≤ 64) := Lib.hid (by rw [← hm, shR_len (by have := HN4.out; omega)]; have := shI_len p n4; have := HS4.out; omega)
  clear hm hrow hb l0 l1 l2 l3 o0 o1
  obtain ⟨i0, i1, i2, i3⟩ := box4c (blk_keep HB8.out HQI.out)
  go_wp2_with fail
  refine (HSD.out _).mono ?_
  rintro e w9 ⟨rfl, hb⟩
  have HB9 := Lib.hid (below_on HB8.out hb)
  have HR9 := Lib.hid (HR8.out.below hb)
  clear hb i0 i1 i2 i3
  have HRN : Hid (∀ W, Below w.heap.size w W → ∀ r ∈ (shR L p n4), RtAt W r) := Lib.hid (fun W hW r hr => (HLW.out.rn r (shR_mem r hr)).below hW)
  obtain ⟨z3, hz3⟩ : ∃ z, claR L (shR L p n4) = z := ⟨_, rfl⟩
  obtain ⟨z4, hz4⟩ : ∃ z, occS ox (shR L p n4) = z := ⟨_, rfl⟩
  obtain ⟨z5, hz5⟩ : ∃ z, lieS nN nV (shR L p n4) = z := ⟨_, rfl⟩
  obtain ⟨z6, hz6⟩ : ∃ z, turS q (shR L p n4) = z := ⟨_, rfl⟩
  have HZ3 : Hid (claI L (shI p L.rt.l.length) = z3) := Lib.hid ((cla_eq HM.out).symm.trans (by rw [HN4.out]; exact hz3))
  have HZ4 : Hid (occS ox (shR L p L.rt.l.length) = z4) := Lib.hid (by rw [HN4.out]; exact hz4)
  have HZ5 : Hid (lieS nN nV (shR L p L.rt.l.length) = z5) := Lib.hid (by rw [HN4.out]; exact hz5)
  have HZ6 : Hid (turS q (shR L p L.rt.l.length) = z6) := Lib.hid (by rw [HN4.out]; exact hz6)
  have KCL : Hid (∀ W, Below W0.heap.size W0 W → RowAt 6 rtC W x9 (shR L p n4) → Calls Try.prog 39 #[.agg #[.slice L.se.a n1 L.se.c, .slice L.po.a n2 L.po.c, .slice L.sg.a n3 L.sg.c, .slice L.rt.a n4 L.rt.c], .slice x9 m c9] W fun e w' => e = .returned (.bool z3) ∧ Below W.heap.size W w') := Lib.hid (fun W hW hr => HCL.out HM.out x9 m c9 z3 HMM.out HM64.out hz3 W (below_on HB0.out hW) hr)
  have KOC : Hid (∀ W, Below W0.heap.size W0 W → RowAt 6 rtC W x9 (shR L p n4) → Calls Try.prog 40 #[.slice x9 m c9, .agg #[.int .u64 (ox : Int), .int .u32 (nx : Int), .int .u32 (rx : Int), .slice ia il ic]] W fun e w' => e = .returned (.bool z4) ∧ Below W.heap.size W w') := Lib.hid (fun W hW hr => rocc_is z4 (shR L p n4) x9 m c9 ox nx rx ia il ic hz4 HO.out (tr_ok HM.out) W (HRN.out W (below_on HB0.out hW)) hr (le_tr HM.out) HMM.out HM64.out)
  have KLI : Hid (∀ W, Below W0.heap.size W0 W → RowAt 6 rtC W x9 (shR L p n4) → Calls Try.prog 41 #[.slice x9 m c9, .int .u32 (nN : Int), .int .u32 (nV : Int)] W fun e w' => e = .returned (.bool (!z5)) ∧ Below W.heap.size W w') := Lib.hid (fun W hW hr => rlies_is z5 (shR L p n4) x9 m c9 nN nV hz5 HNV.out.1 HNV.out.2 (nd_ok31 HM.out) W (HRN.out W (below_on HB0.out hW)) hr (le_nd HM.out) HMM.out HM64.out)
  have KTU : Hid (∀ W, Below W0.heap.size W0 W → RowAt 6 rtC W x9 (shR L p n4) → Calls Try.prog 41 #[.slice x9 m c9, .int .u32 ((4294967295 - q : Nat) : Int), .int .u32 (q : Int)] W fun e w' => e = .returned (.bool (!z6)) ∧ Below W.heap.size W w') := Lib.hid (fun W hW hr => rlies_is z6 (shR L p n4) x9 m c9 (4294967295 - q) q ((tur_lie HQ2.out (nd_ok31 HM.out)).trans hz6) (by omega) HQ2.out (nd_ok31 HM.out) W (HRN.out W (below_on HB0.out hW)) hr (le_nd HM.out) HMM.out HM64.out)
  clear hz3 hz4 hz5 hz6
  obtain ⟨l0, l1, l2, l3⟩ := box4c (blk_keep HB9.out HQL.out)
  go_wp2_with fail
  refine (KCL.out _ HB9.out HR9.out).mono ?_
  rintro e w10 ⟨rfl, hb⟩
  have HB10 := Lib.hid (below_on HB9.out hb)
  have HR10 := Lib.hid (HR9.out.below hb)
  clear hb l0 l1 l2 l3
  cases z3 with
  | true =>
    have HT := Lib.hid (HZ.out.symm.trans (cyc_3 HC1.out HOUF.out HZ3.out))
    go_wp2_with fail
    go_ret
    exact ⟨by rw [HT.out]; rfl, below_on HB0.out HB10.out⟩
  | false =>
    obtain ⟨i0, i1, i2, i3⟩ := box4c (blk_keep HB10.out HQI.out)
    go_wp2_with fail
    refine (KOC.out _ HB10.out HR10.out).mono ?_
    rintro e w11 ⟨rfl, hb⟩
    have HB11 := Lib.hid (below_on HB10.out hb)
    have HR11 := Lib.hid (HR10.out.below hb)
    clear hb i0 i1 i2 i3
    cases z4 with
    | true =>
      have HT := Lib.hid (HZ.out.symm.trans (cyc_4 HC1.out HOUF.out HZ3.out HZ4.out))
      go_wp2_with fail
      go_ret
      exact ⟨by rw [HT.out]; rfl, below_on HB0.out HB11.out⟩
    | false =>
      go_wp2_with fail
      refine (KLI.out _ HB11.out HR11.out).mono ?_
      rintro e w12 ⟨rfl, hb⟩
      have HB12 := Lib.hid (below_on HB11.out hb)
      have HR12 := Lib.hid (HR11.out.below hb)
      clear hb
      cases z5 with
      | true =>
        have HT := Lib.hid (HZ.out.symm.trans (cyc_5 HC1.out HOUF.out HZ3.out HZ4.out HZ5.out))
        go_wp2_with fail
        go_ret
        exact ⟨by rw [HT.out]; rfl, below_on HB0.out HB12.out⟩
      | false =>
        have o0 := blk_cell (blk_keep HB12.out HQO.out) 0 _ rfl
        have o1 := blk_cell (blk_keep HB12.out HQO.out) 1 _ rfl
        have hx := xor_max q HQ2.out
        go_wp2_with fail
        refine (KTU.out _ HB12.out HR12.out).mono ?_
        rintro e w13 ⟨rfl, hb⟩
        have HB13 := Lib.hid (below_on HB12.out hb)
        clear hb o0 o1 hx
        cases z6 with
        | true =>
          have HT := Lib.hid (HZ.out.symm.trans (cyc_6 HC1.out HOUF.out HZ3.out HZ4.out HZ5.out HZ6.out))
          go_wp2_with fail
          go_ret
          exact ⟨by rw [HT.out]; rfl, below_on HB0.out HB13.out⟩
        | false =>
            have HT := Lib.hid (HZ.out.symm.trans (cyc_0 HC1.out HOUF.out HZ3.out HZ4.out HZ5.out HZ6.out))
            go_wp2_with fail
            go_ret
            exact ⟨by rw [HT.out]; rfl, below_on HB0.out HB13.out⟩
end Go.Proofs.Ythnpekbmaapgnaa
