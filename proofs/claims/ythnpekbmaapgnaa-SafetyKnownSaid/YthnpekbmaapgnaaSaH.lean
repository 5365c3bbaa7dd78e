/-
  Layer 29: the document's clash.
-/
import Derived.Test.YthnpekbmaapgnaaSaG
import Derived.Test.YthnpekbmaapgnaaCoC
namespace Go.Proofs.Ythnpekbmaapgnaa
open Go.RowKit
set_option maxRecDepth 100000
attribute [local irreducible] ixF Sl.v pairS hasBit mayS Rt.tr Rt.nd checkS pw claI occS lieS turS shI shR withBit outS cycS conflictS

set_option maxHeartbeats 8000000 in
theorem rclash_is (z : Bool) (L : Lay) (R : List Rt) (xa : Option Addr) (m c : Nat) (hz : claR L R = z) (w : World) (hL : LayAt w L) (hrs : ∀ r ∈ R, RtAt w r) (hl : RowAt 6 rtC w xa R) (h1 : ∀ r ∈ R, r.pa.l.length + r.ov.l.length ≤ 100000) (h2 : ∀ r ∈ R, r.po.l.length + r.fl.l.length ≤ 100000) (hlen : R.length = m) (hm : m ≤ 64) :
    Calls Try.prog 39 #[.agg #[L.se.v, L.po.v, L.sg.v, L.rt.v], .slice xa m c] w fun e w' => e = .returned (.bool z) ∧ Below w.heap.size w w' := by
  have HCF : Hid (∀ (i k : Nat) (x y : Rt), R[i]? = some x → R[k]? = some y → ∀ W, Below w.heap.size w W → Calls Try.prog 62 #[.agg #[L.se.v, L.po.v, L.sg.v, L.rt.v], .agg #[.string x.nm, .int .i64 x.sg, x.pa.v, x.po.v, x.ov.v, x.fl.v], .agg #[.string y.nm, .int .i64 y.sg, y.pa.v, y.po.v, y.ov.v, y.fl.v]] W fun e w' => e = .returned (.bool (conflictS L x y)) ∧ Below W.heap.size W w') := Lib.hid (fun i k x y hi hk W hW => by
    have hx := List.mem_of_getElem? hi
    have hy := List.mem_of_getElem? hk
    exact rconflict_is L x y W (hL.below hW) ((hrs x hx).below hW) ((hrs y hy).below hW) (h1 x hx) (h2 x hx) (h1 y hy) (h2 y hy))
  obtain ⟨n1, hn1⟩ : ∃ n, L.se.l.length = n := ⟨_, rfl⟩
  obtain ⟨n2, hn2⟩ : ∃ n, L.po.l.length = n := ⟨_, rfl⟩
  obtain ⟨n3, hn3⟩ : ∃ n, L.sg.l.length = n := ⟨_, rfl⟩
  obtain ⟨n4, hn4⟩ : ∃ n, L.rt.l.length = n := ⟨_, rfl⟩
  have HROW := Lib.hid hl
  have HLEN := Lib.hid hlen
  have HM := Lib.hid hm
  have HZ := Lib.hid hz
  rw [slv hn1, slv hn2, slv hn3, slv hn4] at HCF
  rw [slv hn1, slv hn2, slv hn3, slv hn4]
  clear hn1 hn2 hn3 hn4 hL hrs hl h1 h2 hlen hm hz
  go_enter Try.func39, Try.ntmps39
  go_upto_region 1 with fail
  have hbw := below1 w (.cells #[.slice L.se.a n1 L.se.c, .slice L.po.a n2 L.po.c, .slice L.sg.a n3 L.sg.c, .slice L.rt.a n4 L.rt.c] 27)
  have hq := alloc1 w (.cells #[.slice L.se.a n1 L.se.c, .slice L.po.a n2 L.po.c, .slice L.sg.a n3 L.sg.c, .slice L.rt.a n4 L.rt.c] 27) (Below.refl _ _)
  obtain ⟨W, hW⟩ : ∃ W, W = w.alloc (.cells #[.slice L.se.a n1 L.se.c, .slice L.po.a n2 L.po.c, .slice L.sg.a n3 L.sg.c, .slice L.rt.a n4 L.rt.c] 27) := ⟨_, rfl⟩
  rw [← hW] at hbw hq ⊢
  obtain ⟨gl, hgl⟩ : ∃ g, g = w.heap.size := ⟨_, rfl⟩
  rw [← hgl] at hq ⊢
  have HB0 : Hid (Below w.heap.size w W) := Lib.hid hbw
  have HQ := Lib.hid hq
  clear hbw hq hW hgl
  go_upto_region 2 with fail
  go_loopg [5] m (fun g v wr => ∃ i : Nat, i + g = m ∧ v = .int .i64 (i : Int) ∧ (List.range i).any (fun i => (List.range i).any (fun k => clF L R i k)) = false ∧ Below W.heap.size W wr)
  case atStart => exact ⟨0, by omega, rfl, rfl, Below.refl _ _⟩
  case round =>
    obtain ⟨i, hi, rfl, ho, hbw⟩ := hrel
    have HI := Lib.hid hi
    have HO := Lib.hid ho
    have HB := Lib.hid hbw
    clear hi ho hbw
    by_cases hlt : i < m
    · have d1 : (0 : Int) ≤ i := by omega
      have d2 : (i : Int) < m := by omega
      have e1 := wsucc hlt HM.out
      have HLT := Lib.hid hlt
      obtain ⟨X, hX⟩ : ∃ x, xa = x := ⟨_, rfl⟩
      have HXX := Lib.hid hX
      have hrow := HROW.out
      rw [hX] at hrow ⊢
      rcases hrow with hnil | ⟨xb, off, hxb, hc0⟩
      · have := HLEN.out; rw [hnil] at this; simp at this; omega
      subst hxb
      have HC0 := Lib.hid (fun W2 (hW2 : Below W.heap.size W W2) i c hi j v hv => cell_later hW2 (cell_later HB0.out (hc0 i c hi j v hv)))
      clear hc0 hX
      go_upto_region 5 with fail
      go_loopg [6] i (fun g v wr => ∃ k : Nat, k + g = i ∧ v = .int .i64 (k : Int) ∧ (List.range k).any (fun k => clF L R i k) = false ∧ Below W.heap.size W wr)
      case atStart => exact ⟨0, by omega, rfl, rfl, HB.out⟩
      case round =>
        obtain ⟨k, hk, rfl, ho, hbw⟩ := hrel
        have HK := Lib.hid hk
        have HO2 := Lib.hid ho
        have HB1 := Lib.hid hbw
        clear hk ho hbw HB
        by_cases hlk : k < i
        · have d3 : (0 : Int) ≤ k := by omega
          have d4 : (k : Int) < i := by omega
          have d5 : (k : Int) < m := by omega
          have e2 := wsucc hlk (Nat.le_of_lt (Nat.lt_of_lt_of_le hlt HM.out))
          have HLK := Lib.hid hlk
          have hc := HC0.out wr HB1.out
          obtain ⟨x, hyx⟩ : ∃ y, R[i]? = some y := ⟨_, List.getElem?_eq_getElem (by have := HLEN.out; omega)⟩
          have z0 := hc i _ hyx 0 _ rfl
          have z1 := hc i _ hyx 1 _ rfl
          have z2 := hc i _ hyx 2 _ rfl
          have z3 := hc i _ hyx 3 _ rfl
          have z4 := hc i _ hyx 4 _ rfl
          have z5 := hc i _ hyx 5 _ rfl
          rw [Nat.add_zero] at z0
          obtain ⟨p1, hp1⟩ : ∃ n, x.pa.l.length = n := ⟨_, rfl⟩
          obtain ⟨p2, hp2⟩ : ∃ n, x.po.l.length = n := ⟨_, rfl⟩
          obtain ⟨p3, hp3⟩ : ∃ n, x.ov.l.length = n := ⟨_, rfl⟩
          obtain ⟨p4, hp4⟩ : ∃ n, x.fl.l.length = n := ⟨_, rfl⟩
          rw [slv hp1] at z2
          rw [slv hp2] at z3
          rw [slv hp3] at z4
          rw [slv hp4] at z5
          have HZX := Lib.hid (And.intro z0 (And.intro z1 (And.intro z2 (And.intro z3 (And.intro z4 z5)))))
          clear z0 z1 z2 z3 z4 z5
          obtain ⟨y, hyy⟩ : ∃ y, R[k]? = some y := ⟨_, List.getElem?_eq_getElem (by have := HLEN.out; omega)⟩
          have u0 := hc k _ hyy 0 _ rfl
          have u1 := hc k _ hyy 1 _ rfl
          have u2 := hc k _ hyy 2 _ rfl
          have u3 := hc k _ hyy 3 _ rfl
          have u4 := hc k _ hyy 4 _ rfl
          have u5 := hc k _ hyy 5 _ rfl
          rw [Nat.add_zero] at u0
          obtain ⟨r1, hr1⟩ : ∃ n, y.pa.l.length = n := ⟨_, rfl⟩
          obtain ⟨r2, hr2⟩ : ∃ n, y.po.l.length = n := ⟨_, rfl⟩
          obtain ⟨r3, hr3⟩ : ∃ n, y.ov.l.length = n := ⟨_, rfl⟩
          obtain ⟨r4, hr4⟩ : ∃ n, y.fl.l.length = n := ⟨_, rfl⟩
          rw [slv hr1] at u2
          rw [slv hr2] at u3
          rw [slv hr3] at u4
          rw [slv hr4] at u5
          have HZY := Lib.hid (And.intro u0 (And.intro u1 (And.intro u2 (And.intro u3 (And.intro u4 u5)))))
          clear u0 u1 u2 u3 u4 u5
          obtain ⟨D, hD⟩ : ∃ D, conflictS L x y = D := ⟨_, rfl⟩
          have HD : Hid (clF L R i k = D) := Lib.hid ((clf_at hyx hyy).trans hD)
          have KCF : Hid (∀ w', Below wr.heap.size wr w' → Calls Try.prog 62 #[.agg #[.slice L.se.a n1 L.se.c, .slice L.po.a n2 L.po.c, .slice L.sg.a n3 L.sg.c, .slice L.rt.a n4 L.rt.c], .agg #[.string x.nm, .int .i64 x.sg, x.pa.v, x.po.v, x.ov.v, x.fl.v], .agg #[.string y.nm, .int .i64 y.sg, y.pa.v, y.po.v, y.ov.v, y.fl.v]] w' fun e w'' => e = .returned (.bool D) ∧ Below wr.heap.size wr w'') := Lib.hid (fun w' hw' => by
            have h := HCF.out i k x y hyx hyy w' (below_on HB0.out (below_on HB1.out hw'))
            rw [hD] at h
            exact h.mono (fun _ _ h => ⟨h.1, below_on hw' h.2⟩))
          rw [slv hp1, slv hp2, slv hp3, slv hp4, slv hr1, slv hr2, slv hr3, slv hr4] at KCF
          have HQR := Lib.hid (blk_keep HB1.out HQ.out)
          clear hc hyx hyy hD hlk hp1 hp2 hp3 hp4 hr1 hr2 hr3 hr4
          go_upto_region 7 with fail
          refine wp_region_calm (by kernel_rfl) ?_ ?_
          · kernel_rfl
          repeat first
           | go_big_quiet_skip
           | (go_big_quiet_want; go_big_quiet_op; go_big_quiet_on)
           | (with_reducible apply wpQuiet_step
              intro K hK
              go_simp
              first
                | (refine hK _ ?_; clear hK K)
                | (apply Exists.intro
                   refine ⟨fun w' hw' => ?_, hK _ ?_⟩
                   ·
                     (first
                      | with_reducible exact KCF.out _ hw'
                      | (have g0 := blk_cell (blk_keep hw' HQR.out) 0 _ rfl
                         have g1 := blk_cell (blk_keep hw' HQR.out) 1 _ rfl
                         have g2 := blk_cell (blk_keep hw' HQR.out) 2 _ rfl
                         have g3 := blk_cell (blk_keep hw' HQR.out) 3 _ rfl
                         go_simp
                         first | done | with_reducible exact rfl | with_reducible exact ⟨rfl, rfl⟩ | with_reducible exact KCF.out _ hw')
                      | (have f0 := cell_later hw' HZX.out.1
                         have f1 := cell_later hw' HZX.out.2.1
                         have f2 := cell_later hw' HZX.out.2.2.1
                         have f3 := cell_later hw' HZX.out.2.2.2.1
                         have f4 := cell_later hw' HZX.out.2.2.2.2.1
                         have f5 := cell_later hw' HZX.out.2.2.2.2.2
                         go_simp
                         first | done | with_reducible exact rfl | with_reducible exact ⟨rfl, rfl⟩ | with_reducible exact KCF.out _ hw')
                      | (have f0 := cell_later hw' HZY.out.1
                         have f1 := cell_later hw' HZY.out.2.1
                         have f2 := cell_later hw' HZY.out.2.2.1
                         have f3 := cell_later hw' HZY.out.2.2.2.1
                         have f4 := cell_later hw' HZY.out.2.2.2.2.1
                         have f5 := cell_later hw' HZY.out.2.2.2.2.2
                         go_simp
                         first | done | with_reducible exact rfl | with_reducible exact ⟨rfl, rfl⟩ | with_reducible exact KCF.out _ hw'))
                   clear hK K))
          refine wpQuiet_nil ?_
          intro w7 hw7
          have HB7 := Lib.hid (below_on HB1.out hw7)
          clear hw7
          cases D with
          | true =>
            have HT : Hid (z = true) := Lib.hid (HZ.out.symm.trans (rg_yes (by rw [HLEN.out]; exact HLT.out) (rg_yes HLK.out HD.out)))
            go_wp2_with fail
            go_ret
            exact ⟨by rw [HT.out]; rfl, below_on HB0.out HB7.out⟩
          | false =>
            have HN : Hid ((List.range (k + 1)).any (fun k => clF L R i k) = false) := Lib.hid (rg_no HO2.out HD.out)
            go_wp2_with fail
            go_roundg (i - (k + 1))
            case rel => exact ⟨k + 1, lp_next HK.out HLK.out, by go_num, HN.out, HB7.out⟩
            case measure => exact lp_less HK.out HLK.out
        · have d4 : ¬ ((k : Int) < i) := by omega
          have hki : k = i := by have := HK.out; omega
          have HN : Hid ((List.range (i + 1)).any (fun i => (List.range i).any (fun k => clF L R i k)) = false) := Lib.hid (rg_no HO.out (by subst hki; exact HO2.out))
          clear hki
          go_wp2_with fail
          rw [← HXX.out]
          go_roundg (m - (i + 1))
          case rel => exact ⟨i + 1, lp_next HI.out HLT.out, by go_num, HN.out, HB1.out⟩
          case measure => exact lp_less HI.out HLT.out
    · have d2 : ¬ ((i : Int) < m) := by omega
      have him : i = m := by have := HI.out; omega
      have HT : Hid (z = false) := Lib.hid (HZ.out.symm.trans (by rw [claR_f, HLEN.out]; subst him; exact HO.out))
      clear him
      go_wp2_with fail
      go_ret
      exact ⟨by rw [HT.out]; rfl, below_on HB0.out HB.out⟩
end Go.Proofs.Ythnpekbmaapgnaa
