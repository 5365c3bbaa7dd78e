/-
  Layer 29: the document's lies.
-/
import Derived.Test.YthnpekbmaapgnaaSaI
namespace Go.Proofs.Ythnpekbmaapgnaa
open Go.RowKit
set_option maxRecDepth 100000
theorem has_form32 (s n : Nat) (hs : s < 4294967296) : (bits .and .u32 ((s : Int) / 2 ^ n) 1 == 0) = !hasBit s n := by
  have h1 : s / pw n < 4294967296 := Nat.lt_of_le_of_lt (Nat.div_le_self _ _) hs
  rw [shr_pw, show (1 : Int) = ((1 : Nat) : Int) from rfl, u32_and_nat _ 1 h1 (by omega), Nat.and_one_is_mod]
  unfold hasBit
  rw [Bool.eq_iff_iff]; simp; omega
attribute [local irreducible] ixF Sl.v pairS hasBit mayS Rt.tr Rt.nd checkS pw claI occS lieS turS shI shR withBit outS cycS conflictS

set_option maxHeartbeats 8000000 in
theorem rlies_is (z : Bool) (R : List Rt) (xa : Option Addr) (m c nv rv : Nat) (hz : lieS nv rv R = z) (hv1 : nv < 4294967296) (hv2 : rv < 4294967296) (hs : ∀ r ∈ R, ∀ n ∈ r.nd, 0 ≤ n.1 ∧ n.1 ≤ 31) (w : World) (hrs : ∀ r ∈ R, RtAt w r) (hl : RowAt 6 rtC w xa R) (h1 : ∀ r ∈ R, r.po.l.length + r.fl.l.length ≤ 100000) (hlen : R.length = m) (hm : m ≤ 64) :
    Calls Try.prog 41 #[.slice xa m c, .int .u32 (nv : Int), .int .u32 (rv : Int)] w fun e w' => e = .returned (.bool (!z)) ∧ Below w.heap.size w w' := by
  have HTR : Hid (∀ x ∈ R, ∀ W, Below w.heap.size w W → Calls Try.prog 64 #[.agg #[.string x.nm, .int .i64 x.sg, x.pa.v, x.po.v, x.ov.v, x.fl.v]] W fun e w' => ∃ a n c, e = .returned (.slice a n c) ∧ n = x.nd.length ∧ SlAt 2 ndC w' ⟨a, c, x.nd⟩ ∧ Below W.heap.size W w') := Lib.hid (fun x hx W hW => by
    have h := rneeds_is x W ((hrs x hx).below hW) (h1 x hx)
    unfold Rt.nd
    rw [List.length_append]
    exact h)
  have HROW := Lib.hid hl
  have HLEN := Lib.hid hlen
  have HM := Lib.hid hm
  have HZ : Hid ((R.any fun r => r.nd.any (fun x : Int × Bool => !(hasBit (if x.2 then rv else nv) x.1.toNat))) = z) := Lib.hid (by rw [← hz]; unfold lieS; rfl)
  have HV1 := Lib.hid hv1
  have HV2 := Lib.hid hv2
  have HS := Lib.hid hs
  have H1 := Lib.hid h1
  clear hrs hl hlen hm hz hs h1 hv1 hv2
  go_enter Try.func41, Try.ntmps41
  go_upto_region 2 with fail
  go_loopg [7] m (fun g v wr => ∃ i : Nat, i + g = m ∧ v = .int .i64 (i : Int) ∧ (R.take i).any (fun r => r.nd.any (fun x : Int × Bool => !(hasBit (if x.2 then rv else nv) x.1.toNat))) = false ∧ Below w.heap.size w wr)
  case atStart => exact ⟨0, by omega, rfl, tk_zero, Below.refl _ _⟩
  case round =>
    obtain ⟨i, hi, rfl, ho, hbw⟩ := hrel
    have HI := Lib.hid hi
    have HF := Lib.hid ho
    have HB := Lib.hid hbw
    clear hi ho hbw
    by_cases hlt : i < m
    · have d1 : (0 : Int) ≤ i := by omega
      have d2 : (i : Int) < m := by omega
      have e1 := wsucc hlt HM.out
      have HLT := Lib.hid hlt
      obtain ⟨X, hX⟩ : ∃ x, xa = x := ⟨_, rfl⟩
      have HXX := Lib.hid hX
      have hrow := HROW.out
      rw [hX] at hrow ⊢
      rcases hrow with hnil | ⟨xb, off, hxb, hc0⟩
      · have := HLEN.out; rw [hnil] at this; simp at this; omega
      subst hxb
      have hc := fun i c hi j v hv => cell_later HB.out (hc0 i c hi j v hv)
      obtain ⟨x, hyx⟩ : ∃ y, R[i]? = some y := ⟨_, List.getElem?_eq_getElem (by have := HLEN.out; omega)⟩
      have z0 := hc i _ hyx 0 _ rfl
      have z1 := hc i _ hyx 1 _ rfl
      have z2 := hc i _ hyx 2 _ rfl
      have z3 := hc i _ hyx 3 _ rfl
      have z4 := hc i _ hyx 4 _ rfl
      have z5 := hc i _ hyx 5 _ rfl
      rw [Nat.add_zero] at z0
      obtain ⟨p1, hp1⟩ : ∃ n, x.pa.l.length = n := ⟨_, rfl⟩
      obtain ⟨p2, hp2⟩ : ∃ n, x.po.l.length = n := ⟨_, rfl⟩
      obtain ⟨p3, hp3⟩ : ∃ n, x.ov.l.length = n := ⟨_, rfl⟩
      obtain ⟨p4, hp4⟩ : ∃ n, x.fl.l.length = n := ⟨_, rfl⟩
      rw [slv hp1] at z2
      rw [slv hp2] at z3
      rw [slv hp3] at z4
      rw [slv hp4] at z5
      have HZX := Lib.hid (And.intro z0 (And.intro z1 (And.intro z2 (And.intro z3 (And.intro z4 z5)))))
      clear z0 z1 z2 z3 z4 z5
      have hxm := List.mem_of_getElem? hyx
      have KTR : Hid (∀ w', Below wr.heap.size wr w' → Calls Try.prog 64 #[.agg #[.string x.nm, .int .i64 x.sg, x.pa.v, x.po.v, x.ov.v, x.fl.v]] w' fun e w'' => ∃ a n c, e = .returned (.slice a n c) ∧ n = x.nd.length ∧ SlAt 2 ndC w'' ⟨a, c, x.nd⟩ ∧ Below w'.heap.size w' w'') := Lib.hid (fun w' hw' => HTR.out x hxm w' (below_on HB.out hw'))
      rw [slv hp1, slv hp2, slv hp3, slv hp4] at KTR
      have HYX := Lib.hid hyx
      have HSX := Lib.hid (HS.out x hxm)
      have HTL : Hid (x.nd.length ≤ 100000) := Lib.hid (by have := H1.out x hxm; unfold Rt.nd; rw [List.length_append]; exact this)
      obtain ⟨z0, z1, z2, z3, z4, z5⟩ := HZX.out
      clear hc hc0 hyx hxm hp1 hp2 hp3 hp4 hX
      go_wp2_with fail
      refine (KTR.out _ (Below.refl _ _)).mono ?_
      rintro e w1 ⟨ta, tn, tc, rfl, htn, hT, hb1⟩
      have HT := Lib.hid hT.row
      have HTN := Lib.hid htn
      have HB1 := Lib.hid (below_on HB.out hb1)
      have htm : tn ≤ 100000 := by rw [htn]; exact HTL.out
      have HTM := Lib.hid htm
      clear z0 z1 z2 z3 z4 z5 htn hT hb1 htm hlt HB
      go_upto_region 6 with fail
      go_loopg [9] tn (fun g v wq => ∃ k : Nat, k + g = tn ∧ v = .int .i64 (k : Int) ∧ (x.nd.take k).any (fun x : Int × Bool => !(hasBit (if x.2 then rv else nv) x.1.toNat)) = false ∧ Below w1.heap.size w1 wq)
      case atStart => exact ⟨0, by omega, rfl, tk_zero, Below.refl _ _⟩
      case round =>
        obtain ⟨k, hk, rfl, ho, hbw⟩ := hrel
        have HK := Lib.hid hk
        have HF2 := Lib.hid ho
        have HBQ := Lib.hid hbw
        clear hk ho hbw
        by_cases hlk : k < tn
        · have d3 : (0 : Int) ≤ k := by omega
          have d4 : (k : Int) < tn := by omega
          have e2 := wsucc9 hlk (Nat.le_trans HTM.out (by decide))
          have HLK := Lib.hid hlk
          obtain ⟨⟨s, B⟩, hs⟩ : ∃ s, x.nd[k]? = some s := ⟨_, List.getElem?_eq_getElem (by have := HTN.out; omega)⟩
          have hsb := HSX.out _ (List.mem_of_getElem? hs)
          dsimp only at hsb
          obtain ⟨j, rfl⟩ : ∃ j : Nat, s = j := ⟨s.toNat, by omega⟩
          obtain ⟨A, hA⟩ : ∃ x, ta = x := ⟨_, rfl⟩
          have HAA := Lib.hid hA
          have hrow := HT.out
          rw [hA] at hrow ⊢
          rcases hrow with hnil | ⟨tb, toff, htb, ht0⟩
          · have := HTN.out; rw [hnil] at this; simp at this; omega
          subst htb
          have t0 := cell_later HBQ.out (ht0 k _ hs 0 (.int .i64 (j : Int)) rfl)
          have t1 := cell_later HBQ.out (ht0 k _ hs 1 (.bool B) rfl)
          rw [Nat.add_zero] at t0
          have HSK := Lib.hid hs
          have j0 : (0 : Int) ≤ j := by omega
          have j1 : min j 32 = j := by omega
          have j2 : ¬ (32 : Int) ≤ j := by omega
          clear ht0 hs hsb hlk hA
          cases B
          · obtain ⟨E, hE⟩ : ∃ E, (!(hasBit nv j)) = E := ⟨_, rfl⟩
            have f := (has_form32 nv j HV1.out).trans hE
            have HE : Hid ((fun x : Int × Bool => !(hasBit (if x.2 then rv else nv) x.1.toNat)) ((j : Int), false) = E) := Lib.hid (by show (!(hasBit nv ((j : Int).toNat))) = E; rw [Int.toNat_natCast]; exact hE)
            clear hE
            cases E with
            | true =>
              have HTT : Hid (z = true) := Lib.hid (HZ.out.symm.trans (tk_yes HYX.out (tk_yes HSK.out HE.out)))
              go_wp2_with fail
              go_ret
              exact ⟨by rw [HTT.out]; rfl, below_on HB1.out HBQ.out⟩
            | false =>
              have HN : Hid ((x.nd.take (k + 1)).any (fun x : Int × Bool => !(hasBit (if x.2 then rv else nv) x.1.toNat)) = false) := Lib.hid (tk_no HSK.out HF2.out HE.out)
              go_wp2_with fail
              rw [← HAA.out]
              go_roundg (tn - (k + 1))
              case rel => exact ⟨k + 1, lp_next HK.out HLK.out, by go_num, HN.out, HBQ.out⟩
              case measure => exact lp_less HK.out HLK.out
          · obtain ⟨E, hE⟩ : ∃ E, (!(hasBit rv j)) = E := ⟨_, rfl⟩
            have f := (has_form32 rv j HV2.out).trans hE
            have HE : Hid ((fun x : Int × Bool => !(hasBit (if x.2 then rv else nv) x.1.toNat)) ((j : Int), true) = E) := Lib.hid (by show (!(hasBit rv ((j : Int).toNat))) = E; rw [Int.toNat_natCast]; exact hE)
            clear hE
            cases E with
            | true =>
              have HTT : Hid (z = true) := Lib.hid (HZ.out.symm.trans (tk_yes HYX.out (tk_yes HSK.out HE.out)))
              go_wp2_with fail
              go_ret
              exact ⟨by rw [HTT.out]; rfl, below_on HB1.out HBQ.out⟩
            | false =>
              have HN : Hid ((x.nd.take (k + 1)).any (fun x : Int × Bool => !(hasBit (if x.2 then rv else nv) x.1.toNat)) = false) := Lib.hid (tk_no HSK.out HF2.out HE.out)
              go_wp2_with fail
              rw [← HAA.out]
              go_roundg (tn - (k + 1))
              case rel => exact ⟨k + 1, lp_next HK.out HLK.out, by go_num, HN.out, HBQ.out⟩
              case measure => exact lp_less HK.out HLK.out
        · have d4 : ¬ ((k : Int) < tn) := by omega
          have HN : Hid ((R.take (i + 1)).any (fun r => r.nd.any (fun x : Int × Bool => !(hasBit (if x.2 then rv else nv) x.1.toNat))) = false) := Lib.hid (tk_no HYX.out HF.out (tk_all HF2.out (by have := HTN.out; have := HK.out; omega)))
          go_wp2_with fail
          rw [← HXX.out]
          go_roundg (m - (i + 1))
          case rel => exact ⟨i + 1, lp_next HI.out HLT.out, by go_num, HN.out, below_on HB1.out HBQ.out⟩
          case measure => exact lp_less HI.out HLT.out
    · have d2 : ¬ ((i : Int) < m) := by omega
      have HTT : Hid (z = false) := Lib.hid (HZ.out.symm.trans (tk_all HF.out (by have := HLEN.out; have := HI.out; omega)))
      go_wp2_with fail
      go_ret
      exact ⟨by rw [HTT.out]; rfl, HB.out⟩
end Go.Proofs.Ythnpekbmaapgnaa
