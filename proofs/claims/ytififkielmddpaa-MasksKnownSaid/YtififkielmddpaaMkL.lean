/-
  Layer 08: MasksPeace.
-/
import Derived.Test.YtififkielmddpaaMkI
import Derived.Test.YtififkielmddpaaMkK
import Derived.Test.YtififkielmddpaaMC
namespace Go.Proofs.Ytififkielmddpaa
open Go.RowKit
set_option maxRecDepth 100000
attribute [local irreducible] Sl.v hasBit mayS Rt.tr Rt.nd checkS pw withBit withI ofN oneI sideL sideS firstS aheadS secOf rowS tabS tabL mkR mkF mksS liesS mksL liesL allL ptsL trsL formedS badS conflictS
attribute [local irreducible] orS inR peaceB weightS
set_option maxHeartbeats 8000000 in
theorem masksPeace_is (L : Lay) (r : Nat) (hr : r < 18446744073709551616) (w : World) (hL : LayAt w L) : Calls Try.prog 5 #[.agg #[L.se.v, L.po.v, L.sg.v, L.rt.v], .int .u64 (r : Int)] w fun e w' => e = .returned (.bool true) ∧ Below w.heap.size w w' := by
  obtain ⟨n1, hn1⟩ : ∃ n, L.se.l.length = n := ⟨_, rfl⟩
  obtain ⟨n2, hn2⟩ : ∃ n, L.po.l.length = n := ⟨_, rfl⟩
  obtain ⟨n3, hn3⟩ : ∃ n, L.sg.l.length = n := ⟨_, rfl⟩
  obtain ⟨n4, hn4⟩ : ∃ n, L.rt.l.length = n := ⟨_, rfl⟩
  have b0 := below1 w (.cells #[.slice L.se.a n1 L.se.c, .slice L.po.a n2 L.po.c, .slice L.sg.a n3 L.sg.c, .slice L.rt.a n4 L.rt.c] 27)
  have hq := alloc1 w (.cells #[.slice L.se.a n1 L.se.c, .slice L.po.a n2 L.po.c, .slice L.sg.a n3 L.sg.c, .slice L.rt.a n4 L.rt.c] 27) (Below.refl _ _)
  obtain ⟨W, hW⟩ : ∃ W, W = w.alloc (.cells #[.slice L.se.a n1 L.se.c, .slice L.po.a n2 L.po.c, .slice L.sg.a n3 L.sg.c, .slice L.rt.a n4 L.rt.c] 27) := ⟨_, rfl⟩
  rw [← hW] at b0 hq
  have hLW := hL.below b0
  obtain ⟨z, hz⟩ : ∃ z, weightS 1000 L = z := ⟨_, rfl⟩
  have KW : Hid (∀ w', Below W.heap.size W w' → Calls Try.prog 7 #[.agg #[L.se.v, L.po.v, L.sg.v, L.rt.v], .int .i64 1000] w' fun e w'' => e = .returned (.int .i64 z) ∧ Below W.heap.size W w'') := Lib.hid (fun w' hw' => hz ▸ (weight_is 1000 L w' (hLW.below hw')).mono (fun _ _ h => ⟨h.1, below_on hw' h.2⟩))
  have KWO : Hid (∀ w', Below W.heap.size W w' → Calls Try.prog 8 #[] w' fun e w'' => e = .returned (.bool true) ∧ Below W.heap.size W w'') := Lib.hid (fun w' hw' => (works_is w').mono (fun _ _ h => ⟨h.1, below_on hw' h.2⟩))
  obtain ⟨c, hc1⟩ : ∃ c, (checkS L).1 = c := ⟨_, rfl⟩
  obtain ⟨R, hR⟩ : ∃ c, mksL L = c := ⟨_, rfl⟩
  obtain ⟨al, hal⟩ : ∃ c, allL L = c := ⟨_, rfl⟩
  obtain ⟨pt, hpt⟩ : ∃ c, ptsL L = c := ⟨_, rfl⟩
  obtain ⟨tr, htr⟩ : ∃ c, trsL L = c := ⟨_, rfl⟩
  have KMK : Hid (∀ w', Below W.heap.size W w' → Calls Try.prog 10 #[.agg #[L.se.v, L.po.v, L.sg.v, L.rt.v]] w' fun e w'' => ∃ xa xc ya yc m n, e = .returned (.tuple #[.agg #[.slice xa m xc, .slice ya n yc, .int .u64 (al : Int), .int .u32 (pt : Int), .int .u64 (tr : Int)], .int .i64 c]) ∧ m = R.length ∧ RowAt 6 mkC w'' xa R ∧ Below w'.heap.size w' w'') := Lib.hid (fun w' hw' => by
    have h := make_is L w' (hLW.below hw')
    rw [hc1, hR, hal, hpt, htr] at h
    exact h.mono (fun _ _ ⟨xa, xc, ya, yc, m, n, h1, h2, _, h4, _, h6⟩ => ⟨xa, xc, ya, yc, m, n, h1, h2, h4, h6⟩))
  have HRR := Lib.hid hR
  have HCC := Lib.hid hc1
  have HAL := Lib.hid hal
  have HPT := Lib.hid hpt
  have HTR := Lib.hid htr
  clear hc1 hR hal hpt htr
  have HZ := Lib.hid hz
  have HN4 := Lib.hid hn4
  rw [slv hn1, slv hn2, slv hn3, slv hn4] at KW KMK
  rw [slv hn1, slv hn2, slv hn3, slv hn4]
  have HW := Lib.hid hW
  have HB0 := Lib.hid b0
  have HQ := Lib.hid hq
  have HLW := Lib.hid hLW
  clear hn1 hn2 hn3 hn4 hLW hW b0 hq hz
  obtain ⟨gl, hgl⟩ : ∃ g, g = w.heap.size := ⟨_, rfl⟩
  have HGL := Lib.hid hgl
  rw [← hgl] at HQ
  clear hgl
  have HR0 := Lib.hid hr
  clear hr
  go_enter Try.func5, Try.ntmps5
  go_wp2_with fail
  rw [← HW.out, ← HGL.out]
  refine (KW.out _ (Below.refl _ _)).mono ?_
  rintro e w1 ⟨rfl, hb⟩
  have HB1 := Lib.hid hb
  clear hb
  by_cases hz : 1000 < z
  · go_wp2_with fail
    refine (KWO.out _ HB1.out).mono ?_
    rintro e w2 ⟨rfl, hb⟩
    have HB2 := Lib.hid (below_on HB0.out hb)
    clear hb
    go_wp2_with fail
    go_ret
    exact ⟨rfl, HB2.out⟩
  obtain ⟨l0, l1, l2, l3⟩ := k_box (blk_keep HB1.out HQ.out)
  go_wp2_with fail
  clear l0 l1 l2 l3
  refine (KMK.out _ HB1.out).mono ?_
  rintro e w2 ⟨xa, xc, ya, yc, m, n, rfl, hm, hrr, hb⟩
  have HB2 := Lib.hid (below_on HB1.out hb)
  have HRW := Lib.hid hrr
  have HMN := Lib.hid hm
  clear hb hm hrr hz
  go_upto_region 4 with fail
  have hbx := below1 w2 (.cells #[.slice xa m xc, .slice ya n yc, .int .u64 (al : Int), .int .u32 (pt : Int), .int .u64 (tr : Int)] 36)
  have hqx := alloc1 w2 (.cells #[.slice xa m xc, .slice ya n yc, .int .u64 (al : Int), .int .u32 (pt : Int), .int .u64 (tr : Int)] 36) (Below.refl _ _)
  obtain ⟨w3, hw3⟩ : ∃ W, W = w2.alloc (.cells #[.slice xa m xc, .slice ya n yc, .int .u64 (al : Int), .int .u32 (pt : Int), .int .u64 (tr : Int)] 36) := ⟨_, rfl⟩
  rw [← hw3] at hbx hqx ⊢
  obtain ⟨gm, hgm⟩ : ∃ g, g = w2.heap.size := ⟨_, rfl⟩
  rw [← hgm] at hqx ⊢
  have HQM := Lib.hid hqx
  have HB3 := Lib.hid (below_on HB2.out hbx)
  have HRW3 := Lib.hid (HRW.out.below hbx)
  clear hbx hqx hw3 hgm
  by_cases hc0 : c = 0
  rotate_left
  · have hcn : (c != 0) = true := by rw [bne_iff_ne]; exact hc0
    have hm0 : m = 0 := by
      rw [HMN.out, ← HRR.out]
      unfold mksL
      rw [HCC.out, if_neg hc0]
      rfl
    clear hc0
    subst hm0
    have y0 := blk_cell HQM.out 0 _ rfl; have y1 := blk_cell HQM.out 1 _ rfl; have y2 := blk_cell HQM.out 2 _ rfl; have y3 := blk_cell HQM.out 3 _ rfl; have y4 := blk_cell HQM.out 4 _ rfl
    go_wp2_with fail
    refine (KWO.out _ HB3.out).mono ?_
    rintro e w4 ⟨rfl, hb⟩
    have HB4 := Lib.hid (below_on HB0.out hb)
    clear hb
    go_wp2_with fail
    go_ret
    exact ⟨rfl, HB4.out⟩
  subst hc0
  have HMAY : Hid (mayS L = true) := Lib.hid (cs_zero HCC.out)
  have hsm := mayS_small HMAY.out
  have e1 : R = mksS L := by rw [← HRR.out]; unfold mksL; rw [HCC.out, if_pos rfl]
  have e2 : al = pw L.rt.l.length - 1 := by rw [← HAL.out]; unfold allL; rw [HCC.out, if_pos rfl]
  have e3 : pt = pw L.po.l.length - 1 := by rw [← HPT.out]; unfold ptsL; rw [HCC.out, if_pos rfl]
  have e4 : tr = pw L.se.l.length - 1 := by rw [← HTR.out]; unfold trsL; rw [HCC.out, if_pos rfl]
  have e5 : m = L.rt.l.length := by rw [HMN.out, e1, mks_len]
  obtain ⟨q, hq⟩ : ∃ q, r &&& al = q := ⟨_, rfl⟩
  have pb : ∀ k, k ≤ 64 → pw k - 1 < 18446744073709551616 := fun k hk => by
    have := Nat.pow_le_pow_right (n := 2) (show 0 < 2 by omega) hk
    rw [pw_eq]
    omega
  have pb2 : ∀ k, k ≤ 32 → pw k - 1 < 4294967296 := fun k hk => by
    have := Nat.pow_le_pow_right (n := 2) (show 0 < 2 by omega) hk
    rw [pw_eq]
    omega
  have HQL : Hid (q < 18446744073709551616) := Lib.hid (by rw [← hq]; exact Nat.lt_of_le_of_lt Nat.and_le_left HR0.out)
  have HTB : Hid (tr < 18446744073709551616) := Lib.hid (by rw [e4]; exact pb _ (by omega))
  have HPB : Hid (pt < 4294967296) := Lib.hid (by rw [e3]; exact pb2 _ (by omega))
  have HPC : Hid (Pc L q) := Lib.hid (by rw [← hq, e2]; exact Pc.make HCC.out r)
  have HAND : Hid (bits .and .u64 (r : Int) (al : Int) = (q : Int)) := Lib.hid (by rw [u64_and_nat _ _ HR0.out (by rw [e2]; exact pb _ (by omega)), hq])
  have HR1 := Lib.hid e1
  have HE5 := Lib.hid e5
  have HM64 : Hid (m ≤ 64) := Lib.hid (by omega)
  have HOK : Hid (∀ x ∈ R, x.ok) := Lib.hid (by rw [e1]; exact mks_ok HMAY.out)
  obtain ⟨P, hP⟩ : ∃ P, peaceB L q = P := ⟨_, rfl⟩
  have HP := Lib.hid hP
  obtain ⟨za, hza⟩ : ∃ z, orS Mk.n R q m = z := ⟨_, rfl⟩
  obtain ⟨zb, hzb⟩ : ∃ z, orS Mk.r R q m = z := ⟨_, rfl⟩
  obtain ⟨zc, hzc⟩ : ∃ z, orS Mk.c R q m = z := ⟨_, rfl⟩
  have HZA := Lib.hid hza
  have HZB := Lib.hid hzb
  have HZC := Lib.hid hzc
  have hla : za < 4294967296 := by rw [← hza]; exact orS_lt (W := 32) (fun x hx => (HOK.out x hx).n) m
  have hlb : zb < 4294967296 := by rw [← hzb]; exact orS_lt (W := 32) (fun x hx => (HOK.out x hx).r) m
  have hlc : zc < 18446744073709551616 := by rw [← hzc]; exact orS_lt (W := 64) (fun x hx => (HOK.out x hx).c) m
  have HLS : Hid (∀ k, orS Mk.t R q k < 2 ^ 64) := Lib.hid (orS_lt (fun x hx => (HOK.out x hx).t))
  obtain ⟨zp, hzp⟩ : ∃ z, zc &&& q = z := ⟨_, rfl⟩
  have HCL : Hid (bits .and .u64 (zc : Int) (q : Int) = (zp : Int)) := Lib.hid (by rw [u64_and_nat _ _ hlc HQL.out, hzp])
  have HPP : Hid (((zp : Int) == 0) = P) := Lib.hid (by
    rw [← hP]
    unfold peaceB
    rw [← e1, ← e5, hzc, hzp, Bool.eq_iff_iff, beq_iff_eq, decide_eq_true_eq]
    omega)
  obtain ⟨zab, hzab⟩ : ∃ z, za &&& zb = z := ⟨_, rfl⟩
  obtain ⟨zo, hzo⟩ : ∃ z, za ||| zb = z := ⟨_, rfl⟩
  have HAB : Hid (bits .and .u32 (za : Int) (zb : Int) = (zab : Int)) := Lib.hid (by rw [u32_and_nat _ _ hla hlb, hzab])
  have HAB0 : Hid (P = true → zab = 0) := Lib.hid (fun h => by
    have := pc_need HPC.out (hP.trans h)
    rw [← e1, ← e5, hza, hzb, hzab] at this
    exact this)
  have HO1 : Hid (bits .or .u32 (za : Int) (zb : Int) = (zo : Int)) := Lib.hid (by rw [u32_or_nat _ _ hla hlb, hzo])
  have hzol : zo < 4294967296 := by rw [← hzo]; exact Nat.or_lt_two_pow (n := 32) hla hlb
  have HO2 : Hid (bits .and .u32 (zo : Int) (pt : Int) = (zo : Int)) := Lib.hid (by
    have := pc_points (r := q) (k := m) HPC.out
    rw [← e1, hza, hzb, hzo, ← e3] at this
    rw [u32_and_nat _ _ hzol HPB.out, this])
  have HSE : Hid (∀ k, bits .and .u64 ((orS Mk.t R q k : Nat) : Int) (tr : Int) = ((orS Mk.t R q k : Nat) : Int)) := Lib.hid (fun k => by
    rw [u64_and_nat _ _ (HLS.out k) HTB.out, e1, e4, pc_tracks HPC.out])
  clear hsm e1 e2 e3 e4 e5 hq pb pb2 hP hza hzb hzc hla hlb hlc hzp hzab hzo hzol
  have hand := HAND.out
  have y0 := blk_cell HQM.out 0 _ rfl; have y1 := blk_cell HQM.out 1 _ rfl; have y2 := blk_cell HQM.out 2 _ rfl; have y3 := blk_cell HQM.out 3 _ rfl; have y4 := blk_cell HQM.out 4 _ rfl
  go_wp2_with fail
  clear hand
  have HM5 : Hid (m ≤ 100000) := Lib.hid (Nat.le_trans HM64.out (by decide))
  refine (need_is za zb R xa ya m n xc yc al pt tr q HOK.out HQL.out HM5.out HMN.out.symm _ HRW3.out HZA.out HZB.out).mono ?_
  rintro e w4 ⟨rfl, hb⟩
  have HB4 := Lib.hid hb
  have HQM4 := Lib.hid (blk_keep hb HQM.out)
  clear y0 y1 y2 y3 y4
  clear hb
  have y0 := blk_cell HQM4.out 0 _ rfl; have y1 := blk_cell HQM4.out 1 _ rfl; have y2 := blk_cell HQM4.out 2 _ rfl; have y3 := blk_cell HQM4.out 3 _ rfl; have y4 := blk_cell HQM4.out 4 _ rfl
  go_wp2_with fail
  refine (clash_is zc R xa ya m n xc yc al pt tr q HOK.out HQL.out HM5.out HMN.out.symm _ (HRW3.out.below HB4.out) HZC.out).mono ?_
  rintro e w5 ⟨rfl, hb⟩
  have HB5 := Lib.hid (below_on HB4.out hb)
  have HQM5 := Lib.hid (blk_keep hb HQM4.out)
  clear y0 y1 y2 y3 y4
  clear hb
  have hcl := HCL.out
  have hpp := HPP.out
  go_upto_region 11 with fail
  clear hcl hpp
  go_loopg [10, 11] m (fun g s v wr => ∃ i : Nat, i + g = m ∧ v = .int .i64 (i : Int) ∧ s = .int .u64 ((orS Mk.t R q i : Nat) : Int) ∧ Below w3.heap.size w3 wr)
  case atStart => exact ⟨0, by omega, rfl, by rw [orS_zero]; rfl, HB5.out⟩
  case round =>
    obtain ⟨i, hi, rfl, rfl, hbw⟩ := hrel
    have HI := Lib.hid hi
    have HB := Lib.hid hbw
    have k0 := blk_cell (blk_keep hbw HQM.out) 0 _ rfl
    clear hi hbw
    by_cases hlt : i < m
    · have d1 : (0 : Int) ≤ i := by omega
      have d2 : (i : Int) < m := by omega
      have e1 := k_succ hlt (Nat.le_trans HM5.out (by decide))
      have HLT := Lib.hid hlt
      obtain ⟨D, hD⟩ : ∃ D, inR q i = D := ⟨_, rfl⟩
      have HD := Lib.hid hD
      have HHS : Hid (∀ V, Calls Try.prog 18 #[.int .u64 (q : Int), .int .i64 (i : Int)] V fun e w' => e = .returned (.bool D) ∧ V = w') := Lib.hid (fun V => hD ▸ inR_rhas q i V (by have := HM64.out; have := HLT.out; omega) HQL.out)
      obtain ⟨S, hS⟩ : ∃ S, orS Mk.t R q i = S := ⟨_, rfl⟩
      have HS := Lib.hid hS
      have HSL : Hid (S < 2 ^ 64) := Lib.hid (by rw [← hS]; exact HLS.out i)
      rw [hS]
      cases D with
      | false =>
        clear hD hlt hS
        go_wp2_with fail
        refine (HHS.out _).mono ?_
        rintro e w' ⟨rfl, rfl⟩
        go_wp2_with fail
        go_roundg (m - (i + 1))
        case rel => exact ⟨i + 1, k_next HI.out HLT.out, by go_num, by rw [orS_no HD.out, HS.out], HB.out⟩
        case measure => exact k_less HI.out HLT.out
      | true =>
        obtain ⟨x, hx⟩ : ∃ x, R[i]? = some x := ⟨_, List.getElem?_eq_getElem (by rw [← HMN.out]; exact hlt)⟩
        have hx2 : (mksS L)[i]? = some x := by rw [← HR1.out]; exact hx
        have HX := Lib.hid hx
        have xo := HOK.out x (List.mem_of_getElem? hx)
        have hxt : x.t < 18446744073709551616 := xo.t
        obtain ⟨z3, hz3⟩ : ∃ z, x.f &&& x.t = z := ⟨_, rfl⟩
        have HF3 : Hid (bits .and .u64 (x.f : Int) (x.t : Int) = (z3 : Int) ∧ ((z3 : Int) == 0) = false) := Lib.hid ⟨by rw [u64_and_nat _ _ xo.f xo.t, hz3], by
          have := pc_first HPC.out hx2
          rw [hz3] at this
          rw [beq_eq_false_iff_ne]
          omega⟩
        have HF4 : Hid (bits .and .u64 (x.a : Int) (x.t : Int) = 0) := Lib.hid (by rw [u64_and_nat _ _ xo.a xo.t, pc_ahead HPC.out hx2]; rfl)
        have HF5 : Hid (bits .and .u32 (x.n : Int) (x.r : Int) = 0) := Lib.hid (by rw [u32_and_nat _ _ xo.n xo.r, pc_sides HPC.out hx2]; rfl)
        have HF1 : Hid (P = true → bits .and .u64 (x.t : Int) (S : Int) = 0 ∧ bits .and .u64 (x.c : Int) (q : Int) = 0) := Lib.hid (fun h => by
          have h1 := pc_track HPC.out (HP.out.trans h) hD hx2
          have h2 := pc_row HPC.out (HP.out.trans h) hD hx2
          rw [← HR1.out, hS] at h1
          exact ⟨by rw [u64_and_nat _ _ xo.t HSL.out, h1]; rfl, by rw [u64_and_nat _ _ xo.c HQL.out, h2]; rfl⟩)
        have HF6 : Hid (bits .or .u64 (S : Int) (x.t : Int) = ((S ||| x.t : Nat) : Int)) := Lib.hid (or64 HSL.out xo.t)
        have HNX : Hid (orS Mk.t R q (i + 1) = S ||| x.t) := Lib.hid (by rw [orS_yes hD hx, hS])
        obtain ⟨X, hX⟩ : ∃ a, xa = a := ⟨_, rfl⟩
        have HXX := Lib.hid hX
        have hrow := HRW3.out
        rw [hX] at hrow k0 ⊢
        rcases hrow with hnil | ⟨xb, off, hxb, hc0⟩
        · rw [hnil] at hx; cases hx
        subst hxb
        have hc := fun j v hv => cell_later HB.out (hc0 i x hx j v hv)
        have p0 := hc 0 _ rfl
        have p1 := hc 1 _ rfl
        have p2 := hc 2 _ rfl
        have p3 := hc 3 _ rfl
        have p4 := hc 4 _ rfl
        have p5 := hc 5 _ rfl
        rw [Nat.add_zero] at p0
        clear hc hc0 hx hx2 hlt hX hD hS xo hxt hz3
        go_wp2_with fail
        refine (HHS.out _).mono ?_
        rintro e w' ⟨rfl, rfl⟩
        go_upto_region 15 with fail
        have hbn := below1 wr (.cells #[.int .u64 (x.t : Int), .int .u64 (x.f : Int), .int .u64 (x.a : Int), .int .u32 (x.n : Int), .int .u32 (x.r : Int), .int .u64 (x.c : Int)] 49)
        have hqn := alloc1 wr (.cells #[.int .u64 (x.t : Int), .int .u64 (x.f : Int), .int .u64 (x.a : Int), .int .u32 (x.n : Int), .int .u32 (x.r : Int), .int .u64 (x.c : Int)] 49) (Below.refl _ _)
        obtain ⟨V9, hV9⟩ : ∃ V, V = wr.alloc (.cells #[.int .u64 (x.t : Int), .int .u64 (x.f : Int), .int .u64 (x.a : Int), .int .u32 (x.n : Int), .int .u32 (x.r : Int), .int .u64 (x.c : Int)] 49) := ⟨_, rfl⟩
        rw [← hV9] at hbn hqn ⊢
        obtain ⟨g9, hg9⟩ : ∃ g, g = wr.heap.size := ⟨_, rfl⟩
        rw [← hg9] at hqn ⊢
        have HB9 := Lib.hid (below_on HB.out hbn)
        have HQ9 := Lib.hid hqn
        clear hbn hqn hV9 hg9 k0 p0 p1 p2 p3 p4 p5
        have u0 := blk_cell HQ9.out 0 _ rfl; have u1 := blk_cell HQ9.out 1 _ rfl; have u2 := blk_cell HQ9.out 2 _ rfl; have u3 := blk_cell HQ9.out 3 _ rfl; have u4 := blk_cell HQ9.out 4 _ rfl; have u5 := blk_cell HQ9.out 5 _ rfl
        have f3 := HF3.out.1
        have f3b := HF3.out.2
        have f4 := HF4.out
        have f5 := HF5.out
        have f6 := HF6.out
        cases P with
        | true =>
          obtain ⟨f1, f2⟩ := HF1.out rfl
          go_wp2_with fail
          rw [← HXX.out]
          go_roundg (m - (i + 1))
          case rel => exact ⟨i + 1, k_next HI.out HLT.out, by go_num, by rw [HNX.out], HB9.out⟩
          case measure => exact k_less HI.out HLT.out
        | false =>
          go_wp2_with fail
          rw [← HXX.out]
          go_roundg (m - (i + 1))
          case rel => exact ⟨i + 1, k_next HI.out HLT.out, by go_num, by rw [HNX.out], HB9.out⟩
          case measure => exact k_less HI.out HLT.out
    · have d2 : ¬ (i : Int) < m := by omega
      have y3 := blk_cell (blk_keep HB.out HQM.out) 3 _ rfl
      have y4 := blk_cell (blk_keep HB.out HQM.out) 4 _ rfl
      have hse := HSE.out i
      have hab := HAB.out
      have ho1 := HO1.out
      have ho2 := HO2.out
      obtain ⟨S, hS⟩ : ∃ S, orS Mk.t R q i = S := ⟨_, rfl⟩
      rw [hS] at hse ⊢
      clear hlt hS
      cases P with
      | true =>
        have h0 := HAB0.out rfl
        subst h0
        go_wp2_with fail
        refine (KWO.out _ (below_on HB3.out HB.out)).mono ?_
        rintro e w6 ⟨rfl, hb⟩
        have HB6 := Lib.hid (below_on HB0.out hb)
        clear hb
        go_wp2_with fail
        go_ret
        exact ⟨rfl, HB6.out⟩
      | false =>
        go_wp2_with fail
        refine (KWO.out _ (below_on HB3.out HB.out)).mono ?_
        rintro e w6 ⟨rfl, hb⟩
        have HB6 := Lib.hid (below_on HB0.out hb)
        clear hb
        go_wp2_with fail
        go_ret
        exact ⟨rfl, HB6.out⟩
theorem walk_MasksPeace (v0 : Array Value) (a1 : Int) (w : World) (_s0 : v0.size = Try.prog.cellsOf 27) (w0 : Rd Try.prog w 27 v0.toList) (w1 : (Lit.int .u64 a1).wf = true) :
    Calls Try.prog 5 #[.agg v0, .int .u64 a1] w fun e w' => e = .returned (.bool true) ∧ Below w.heap.size w w' := by
  obtain ⟨L, hv, hL⟩ := lay_of w0
  obtain rfl : v0 = #[L.se.v, L.po.v, L.sg.v, L.rt.v] := by apply Array.toList_inj.1; rw [hv]
  obtain ⟨r, rfl, hr⟩ := k_u64 w1
  exact masksPeace_is L r hr w hL
end Go.Proofs.Ytififkielmddpaa
