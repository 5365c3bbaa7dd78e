/-
  Layer 29: the document's occupied.
-/
import Derived.Test.YthnpekbmaapgnaaSaH
namespace Go.Proofs.Ythnpekbmaapgnaa
open Go.RowKit
set_option maxRecDepth 100000
attribute [local irreducible] ixF Sl.v pairS hasBit mayS Rt.tr Rt.nd checkS pw claI occS lieS turS shI shR withBit outS cycS conflictS

set_option maxHeartbeats 8000000 in
theorem rocc_is (z : Bool) (R : List Rt) (xa : Option Addr) (m c ox nx rx : Nat) (ia : Option Addr) (il ic : Nat) (hz : occS ox R = z) (ho : ox < 18446744073709551616) (hs : ∀ r ∈ R, ∀ s ∈ r.tr, 0 ≤ s ∧ s ≤ 63) (w : World) (hrs : ∀ r ∈ R, RtAt w r) (hl : RowAt 6 rtC w xa R) (h1 : ∀ r ∈ R, r.pa.l.length + r.ov.l.length ≤ 100000) (hlen : R.length = m) (hm : m ≤ 64) :
    Calls Try.prog 40 #[.slice xa m c, .agg #[.int .u64 (ox : Int), .int .u32 (nx : Int), .int .u32 (rx : Int), .slice ia il ic]] w fun e w' => e = .returned (.bool z) ∧ Below w.heap.size w w' := by
  have HTR : Hid (∀ x ∈ R, ∀ W, Below w.heap.size w W → Calls Try.prog 63 #[.agg #[.string x.nm, .int .i64 x.sg, x.pa.v, x.po.v, x.ov.v, x.fl.v]] W fun e w' => ∃ a n c, e = .returned (.slice a n c) ∧ n = x.tr.length ∧ SlAt 1 intC w' ⟨a, c, x.tr⟩ ∧ Below W.heap.size W w') := Lib.hid (fun x hx W hW => by
    have h := rtrack_is x W ((hrs x hx).below hW) (h1 x hx)
    unfold Rt.tr
    rw [List.length_append]
    exact h)
  have HROW := Lib.hid hl
  have HLEN := Lib.hid hlen
  have HM := Lib.hid hm
  have HZ : Hid ((R.any fun r => r.tr.any (fun s => hasBit ox s.toNat)) = z) := Lib.hid (by rw [← hz]; unfold occS; rfl)
  have HO := Lib.hid ho
  have HS := Lib.hid hs
  have H1 := Lib.hid h1
  clear hrs hl hlen hm hz ho hs h1
  go_enter Try.func40, Try.ntmps40
  go_upto_region 1 with fail
  have hbw := below1 w (.cells #[.int .u64 (ox : Int), .int .u32 (nx : Int), .int .u32 (rx : Int), .slice ia il ic] 32)
  have hq := alloc1 w (.cells #[.int .u64 (ox : Int), .int .u32 (nx : Int), .int .u32 (rx : Int), .slice ia il ic] 32) (Below.refl _ _)
  obtain ⟨W, hW⟩ : ∃ W, W = w.alloc (.cells #[.int .u64 (ox : Int), .int .u32 (nx : Int), .int .u32 (rx : Int), .slice ia il ic] 32) := ⟨_, rfl⟩
  rw [← hW] at hbw hq ⊢
  obtain ⟨gl, hgl⟩ : ∃ g, g = w.heap.size := ⟨_, rfl⟩
  rw [← hgl] at hq ⊢
  have HB0 : Hid (Below w.heap.size w W) := Lib.hid hbw
  have HQ := Lib.hid hq
  clear hbw hq hW hgl
  go_upto_region 2 with fail
  go_loopg [5] m (fun g v wr => ∃ i : Nat, i + g = m ∧ v = .int .i64 (i : Int) ∧ (R.take i).any (fun r => r.tr.any (fun s => hasBit ox s.toNat)) = false ∧ Below W.heap.size W wr)
  case atStart => exact ⟨0, by omega, rfl, tk_zero, Below.refl _ _⟩
  case round =>
    obtain ⟨i, hi, rfl, ho, hbw⟩ := hrel
    have HI := Lib.hid hi
    have HF := Lib.hid ho
    have HB := Lib.hid hbw
    clear hi ho hbw
    by_cases hlt : i < m
    · have d1 : (0 : Int) ≤ i := by omega
      have d2 : (i : Int) < m := by omega
      have e1 := wsucc hlt HM.out
      have HLT := Lib.hid hlt
      obtain ⟨X, hX⟩ : ∃ x, xa = x := ⟨_, rfl⟩
      have HXX := Lib.hid hX
      have hrow := HROW.out
      rw [hX] at hrow ⊢
      rcases hrow with hnil | ⟨xb, off, hxb, hc0⟩
      · have := HLEN.out; rw [hnil] at this; simp at this; omega
      subst hxb
      have hc := fun i c hi j v hv => cell_later HB.out (cell_later HB0.out (hc0 i c hi j v hv))
      obtain ⟨x, hyx⟩ : ∃ y, R[i]? = some y := ⟨_, List.getElem?_eq_getElem (by have := HLEN.out; omega)⟩
      have z0 := hc i _ hyx 0 _ rfl
      have z1 := hc i _ hyx 1 _ rfl
      have z2 := hc i _ hyx 2 _ rfl
      have z3 := hc i _ hyx 3 _ rfl
      have z4 := hc i _ hyx 4 _ rfl
      have z5 := hc i _ hyx 5 _ rfl
      rw [Nat.add_zero] at z0
      obtain ⟨p1, hp1⟩ : ∃ n, x.pa.l.length = n := ⟨_, rfl⟩
      obtain ⟨p2, hp2⟩ : ∃ n, x.po.l.length = n := ⟨_, rfl⟩
      obtain ⟨p3, hp3⟩ : ∃ n, x.ov.l.length = n := ⟨_, rfl⟩
      obtain ⟨p4, hp4⟩ : ∃ n, x.fl.l.length = n := ⟨_, rfl⟩
      rw [slv hp1] at z2
      rw [slv hp2] at z3
      rw [slv hp3] at z4
      rw [slv hp4] at z5
      have HZX := Lib.hid (And.intro z0 (And.intro z1 (And.intro z2 (And.intro z3 (And.intro z4 z5)))))
      clear z0 z1 z2 z3 z4 z5
      have hxm := List.mem_of_getElem? hyx
      have KTR : Hid (∀ w', Below wr.heap.size wr w' → Calls Try.prog 63 #[.agg #[.string x.nm, .int .i64 x.sg, x.pa.v, x.po.v, x.ov.v, x.fl.v]] w' fun e w'' => ∃ a n c, e = .returned (.slice a n c) ∧ n = x.tr.length ∧ SlAt 1 intC w'' ⟨a, c, x.tr⟩ ∧ Below w'.heap.size w' w'') := Lib.hid (fun w' hw' => HTR.out x hxm w' (below_on HB0.out (below_on HB.out hw')))
      rw [slv hp1, slv hp2, slv hp3, slv hp4] at KTR
      have HYX := Lib.hid hyx
      have HSX := Lib.hid (HS.out x hxm)
      have HTL : Hid (x.tr.length ≤ 100000) := Lib.hid (by have := H1.out x hxm; unfold Rt.tr; rw [List.length_append]; exact this)
      obtain ⟨z0, z1, z2, z3, z4, z5⟩ := HZX.out
      clear hc hc0 hyx hxm hp1 hp2 hp3 hp4 hX
      go_wp2_with fail
      refine (KTR.out _ (Below.refl _ _)).mono ?_
      rintro e w1 ⟨ta, tn, tc, rfl, htn, hT, hb1⟩
      have HT := Lib.hid hT.row
      have HTN := Lib.hid htn
      have HB1 := Lib.hid (below_on HB.out hb1)
      have htm : tn ≤ 100000 := by rw [htn]; exact HTL.out
      have HTM := Lib.hid htm
      clear z0 z1 z2 z3 z4 z5 htn hT hb1 htm hlt HB
      go_upto_region 6 with fail
      go_loopg [7] tn (fun g v wq => ∃ k : Nat, k + g = tn ∧ v = .int .i64 (k : Int) ∧ (x.tr.take k).any (fun s => hasBit ox s.toNat) = false ∧ Below w1.heap.size w1 wq)
      case atStart => exact ⟨0, by omega, rfl, tk_zero, Below.refl _ _⟩
      case round =>
        obtain ⟨k, hk, rfl, ho, hbw⟩ := hrel
        have HK := Lib.hid hk
        have HF2 := Lib.hid ho
        have HBQ := Lib.hid hbw
        clear hk ho hbw
        by_cases hlk : k < tn
        · have d3 : (0 : Int) ≤ k := by omega
          have d4 : (k : Int) < tn := by omega
          have e2 := wsucc9 hlk (Nat.le_trans HTM.out (by decide))
          have HLK := Lib.hid hlk
          obtain ⟨s, hs⟩ : ∃ s, x.tr[k]? = some s := ⟨_, List.getElem?_eq_getElem (by have := HTN.out; omega)⟩
          have hsb := HSX.out s (List.mem_of_getElem? hs)
          obtain ⟨j, rfl⟩ : ∃ j : Nat, s = j := ⟨s.toNat, by omega⟩
          obtain ⟨A, hA⟩ : ∃ x, ta = x := ⟨_, rfl⟩
          have HAA := Lib.hid hA
          have hrow := HT.out
          rw [hA] at hrow ⊢
          rcases hrow with hnil | ⟨tb, toff, htb, ht0⟩
          · have := HTN.out; rw [hnil] at this; simp at this; omega
          subst htb
          have t0 := cell_later HBQ.out (ht0 k _ hs 0 _ rfl)
          rw [Nat.add_zero, Nat.mul_one] at t0
          have HT0 := Lib.hid t0
          obtain ⟨D, hD⟩ : ∃ D, hasBit ox j = D := ⟨_, rfl⟩
          have HD : Hid ((fun s : Int => hasBit ox s.toNat) (j : Int) = D) := Lib.hid (by show hasBit ox ((j : Int).toNat) = D; rw [Int.toNat_natCast]; exact hD)
          have HSK := Lib.hid hs
          have KHS : Hid (∀ w', Below wr.heap.size wr w' → Calls Try.prog 61 #[.int .u64 (ox : Int), .int .i64 (j : Int)] w' fun e w'' => e = .returned (.bool D) ∧ Below wr.heap.size wr w'') := Lib.hid (fun w' hw' => by
            have h := has_any ox j w' (by omega) HO.out
            rw [hD] at h
            exact h.mono (fun _ _ h => ⟨h.1, h.2 ▸ hw'⟩))
          have HQR := Lib.hid (blk_keep HBQ.out (blk_keep HB1.out HQ.out))
          clear t0 ht0 hs hD hsb hlk hA
          go_upto_region 8 with fail
          refine wp_region_calm (by kernel_rfl) ?_ ?_
          · kernel_rfl
          repeat first
           | go_big_quiet_skip
           | (go_big_quiet_want; go_big_quiet_op; go_big_quiet_on)
           | (with_reducible apply wpQuiet_step
              intro K hK
              go_simp
              first
                | (refine hK _ ?_; clear hK K)
                | (apply Exists.intro
                   refine ⟨fun w' hw' => ?_, hK _ ?_⟩
                   ·
                     (first
                      | with_reducible exact KHS.out _ hw'
                      | (have g0 := blk_cell (blk_keep hw' HQR.out) 0 _ rfl
                         have g1 := blk_cell (blk_keep hw' HQR.out) 1 _ rfl
                         have g2 := blk_cell (blk_keep hw' HQR.out) 2 _ rfl
                         have g3 := blk_cell (blk_keep hw' HQR.out) 3 _ rfl
                         go_simp
                         first | done | with_reducible exact rfl | with_reducible exact ⟨rfl, rfl⟩ | with_reducible exact KHS.out _ hw')
                      | (have t0 := cell_later hw' HT0.out
                         go_simp
                         first | done | with_reducible exact rfl | with_reducible exact ⟨rfl, rfl⟩ | with_reducible exact KHS.out _ hw'))
                   clear hK K))
          refine wpQuiet_nil ?_
          intro w7 hw7
          have HB7 := Lib.hid (below_on HBQ.out hw7)
          clear hw7
          cases D with
          | true =>
            have HTT : Hid (z = true) := Lib.hid (HZ.out.symm.trans (tk_yes HYX.out (tk_yes HSK.out HD.out)))
            go_wp2_with fail
            go_ret
            exact ⟨by rw [HTT.out]; rfl, below_on HB0.out (below_on HB1.out HB7.out)⟩
          | false =>
            have HN : Hid ((x.tr.take (k + 1)).any (fun s => hasBit ox s.toNat) = false) := Lib.hid (tk_no HSK.out HF2.out HD.out)
            go_wp2_with fail
            rw [← HAA.out]
            go_roundg (tn - (k + 1))
            case rel => exact ⟨k + 1, lp_next HK.out HLK.out, by go_num, HN.out, HB7.out⟩
            case measure => exact lp_less HK.out HLK.out
        · have d4 : ¬ ((k : Int) < tn) := by omega
          have HN : Hid ((R.take (i + 1)).any (fun r => r.tr.any (fun s => hasBit ox s.toNat)) = false) := Lib.hid (tk_no HYX.out HF.out (tk_all HF2.out (by have := HTN.out; have := HK.out; omega)))
          go_wp2_with fail
          rw [← HXX.out]
          go_roundg (m - (i + 1))
          case rel => exact ⟨i + 1, lp_next HI.out HLT.out, by go_num, HN.out, below_on HB1.out HBQ.out⟩
          case measure => exact lp_less HI.out HLT.out
    · have d2 : ¬ ((i : Int) < m) := by omega
      have HTT : Hid (z = false) := Lib.hid (HZ.out.symm.trans (tk_all HF.out (by have := HLEN.out; have := HI.out; omega)))
      go_wp2_with fail
      go_ret
      exact ⟨by rw [HTT.out]; rfl, below_on HB0.out HB.out⟩
end Go.Proofs.Ythnpekbmaapgnaa
