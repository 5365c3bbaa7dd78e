/-
  Walks: SameRoute and SameLayout of the kit of the statements, of two that hold the same.
-/
import Derived.Test.YtififkielmddpaaCoJ
import Derived.Test.YtififkielmddpaaMB
import Derived.Test.YtififkielmddpaaTpF
import Derived.Test.YtififkielmddpaaCoL
namespace Go.Proofs.Ytififkielmddpaa
open Go.RowKit
set_option maxRecDepth 100000
theorem ints_to (x1 : Option Addr) (n c1 : Nat) (l : List Int) (x2 : Option Addr) (c2 : Nat) (w : World) (hn : l.length = n) (hr1 : SlAt 1 intC w ⟨x1, c1, l⟩) (hr2 : SlAt 1 intC w ⟨x2, c2, l⟩) :
    Calls Try.prog 48 #[.slice x1 n c1, .slice x2 n c2] w fun e w' => e = .returned (.bool true) ∧ Below w.heap.size w w' :=
  (sameints_is x1 n c1 l x2 n c2 l w hn hn (by rw [← hn]; exact hr1.lenM) hr1.row hr2.row).mono (fun _ _ h => ⟨by rw [h.1, decide_eq_true rfl], h.2⟩)
theorem nds_to (x1 : Option Addr) (n c1 : Nat) (l : List (Int × Bool)) (x2 : Option Addr) (c2 : Nat) (w : World) (hn : l.length = n) (hr1 : SlAt 2 ndC w ⟨x1, c1, l⟩) (hr2 : SlAt 2 ndC w ⟨x2, c2, l⟩) :
    Calls Try.prog 49 #[.slice x1 n c1, .slice x2 n c2] w fun e w' => e = .returned (.bool true) ∧ Below w.heap.size w w' :=
  (sameneeds_is x1 n c1 l x2 n c2 l w hn hn (by rw [← hn]; exact hr1.lenM) hr1.row hr2.row).mono (fun _ _ h => ⟨by rw [h.1, decide_eq_true rfl], h.2⟩)
theorem box6 {w : World} {g : Nat} {v0 v1 v2 v3 v4 v5 : Value} {t : TypeId} (h : w.heap[g]? = some (.cells #[v0, v1, v2, v3, v4, v5] t)) : w.cell? ⟨g, 0, none⟩ = some v0 ∧ w.cell? ⟨g, 1, none⟩ = some v1 ∧ w.cell? ⟨g, 2, none⟩ = some v2 ∧ w.cell? ⟨g, 3, none⟩ = some v3 ∧ w.cell? ⟨g, 4, none⟩ = some v4 ∧ w.cell? ⟨g, 5, none⟩ = some v5 :=
  ⟨blk_cell h 0 _ rfl, blk_cell h 1 _ rfl, blk_cell h 2 _ rfl, blk_cell h 3 _ rfl, blk_cell h 4 _ rfl, blk_cell h 5 _ rfl⟩
theorem box4 {w : World} {g : Nat} {v0 v1 v2 v3 : Value} {t : TypeId} (h : w.heap[g]? = some (.cells #[v0, v1, v2, v3] t)) : w.cell? ⟨g, 0, none⟩ = some v0 ∧ w.cell? ⟨g, 1, none⟩ = some v1 ∧ w.cell? ⟨g, 2, none⟩ = some v2 ∧ w.cell? ⟨g, 3, none⟩ = some v3 :=
  ⟨blk_cell h 0 _ rfl, blk_cell h 1 _ rfl, blk_cell h 2 _ rfl, blk_cell h 3 _ rfl⟩
set_option maxHeartbeats 4000000 in
theorem sameroute_to (r s : Rt) (h : rc r = rc s) (w : World) (hr : RtAt w r) (hs : RtAt w s) :
    Calls Try.prog 33 #[.agg #[.string r.nm, .int .i64 r.sg, r.pa.v, r.po.v, r.ov.v, r.fl.v], .agg #[.string s.nm, .int .i64 s.sg, s.pa.v, s.po.v, s.ov.v, s.fl.v]] w fun e w' => e = .returned (.bool true) ∧ Below w.heap.size w w' := by
  obtain ⟨nm, sg, ⟨a1, c1, l1⟩, ⟨a2, c2, l2⟩, ⟨a3, c3, l3⟩, ⟨a4, c4, l4⟩⟩ := r
  obtain ⟨nm', sg', ⟨b1, d1, m1⟩, ⟨b2, d2, m2⟩, ⟨b3, d3, m3⟩, ⟨b4, d4, m4⟩⟩ := s
  simp only [rc, Prod.mk.injEq] at h
  obtain ⟨rfl, rfl, rfl, rfl, rfl, rfl⟩ := h
  have HR := Lib.hid hr
  have HS := Lib.hid hs
  obtain ⟨n1, hn1⟩ : ∃ n, l1.length = n := ⟨_, rfl⟩
  obtain ⟨n2, hn2⟩ : ∃ n, l2.length = n := ⟨_, rfl⟩
  obtain ⟨n3, hn3⟩ : ∃ n, l3.length = n := ⟨_, rfl⟩
  obtain ⟨n4, hn4⟩ : ∃ n, l4.length = n := ⟨_, rfl⟩
  have K1 : Hid (∀ W, Below w.heap.size w W → Calls Try.prog 48 #[.slice a1 n1 c1, .slice b1 n1 d1] W fun e w' => e = .returned (.bool true) ∧ Below W.heap.size W w') := Lib.hid (fun W hW => ints_to a1 n1 c1 l1 b1 d1 W hn1 (HR.out.pa.below hW) (HS.out.pa.below hW))
  have K2 : Hid (∀ W, Below w.heap.size w W → Calls Try.prog 49 #[.slice a2 n2 c2, .slice b2 n2 d2] W fun e w' => e = .returned (.bool true) ∧ Below W.heap.size W w') := Lib.hid (fun W hW => nds_to a2 n2 c2 l2 b2 d2 W hn2 (HR.out.po.below hW) (HS.out.po.below hW))
  have K3 : Hid (∀ W, Below w.heap.size w W → Calls Try.prog 48 #[.slice a3 n3 c3, .slice b3 n3 d3] W fun e w' => e = .returned (.bool true) ∧ Below W.heap.size W w') := Lib.hid (fun W hW => ints_to a3 n3 c3 l3 b3 d3 W hn3 (HR.out.ov.below hW) (HS.out.ov.below hW))
  have K4 : Hid (∀ W, Below w.heap.size w W → Calls Try.prog 49 #[.slice a4 n4 c4, .slice b4 n4 d4] W fun e w' => e = .returned (.bool true) ∧ Below W.heap.size W w') := Lib.hid (fun W hW => nds_to a4 n4 c4 l4 b4 d4 W hn4 (HR.out.fl.below hW) (HS.out.fl.below hW))
  show Calls Try.prog 33 #[.agg #[.string nm, .int .i64 sg, .slice a1 l1.length c1, .slice a2 l2.length c2, .slice a3 l3.length c3, .slice a4 l4.length c4], .agg #[.string nm, .int .i64 sg, .slice b1 l1.length d1, .slice b2 l2.length d2, .slice b3 l3.length d3, .slice b4 l4.length d4]] w _
  rw [hn1, hn2, hn3, hn4]
  clear hn1 hn2 hn3 hn4 hr hs
  go_enter Try.func33, Try.ntmps33
  go_upto_region 1 with fail
  refine name_last (os := [.cells #[.string nm, .int .i64 sg, .slice a1 n1 c1, .slice a2 n2 c2, .slice a3 n3 c3, .slice a4 n4 c4] 61, .cells #[.string nm, .int .i64 sg, .slice b1 n1 d1, .slice b2 n2 d2, .slice b3 n3 d3, .slice b4 n4 d4] 61]) (w0 := w) rfl ?_
  intro W hat hbw
  obtain ⟨g1, hg1⟩ : ∃ g, g = w.heap.size := ⟨_, rfl⟩
  obtain ⟨g2, hg2⟩ : ∃ g, g = g1 + 1 := ⟨_, rfl⟩
  have q1 := hat 0 _ rfl
  have q2 := hat 1 _ rfl
  rw [Nat.add_zero, ← hg1] at q1
  rw [← hg1, ← hg2] at q2
  rw [← hg1, ← hg2]
  have HQ1 := Lib.hid q1
  have HQ2 := Lib.hid q2
  have HB0 := Lib.hid hbw
  obtain ⟨x0, x1, x2, x3, x4, x5⟩ := box6 q1
  obtain ⟨y0, y1, y2, y3, y4, y5⟩ := box6 q2
  clear hat hbw hg1 hg2 q1 q2
  go_wp2_with fail
  refine (K1.out _ HB0.out).mono ?_
  rintro e W1 ⟨rfl, hb⟩
  have HB1 := Lib.hid (below_on HB0.out hb)
  clear x0 x1 x2 x3 x4 x5 y0 y1 y2 y3 y4 y5
  have HQ1 := Lib.hid (blk_keep hb HQ1.out)
  have HQ2 := Lib.hid (blk_keep hb HQ2.out)
  obtain ⟨x0, x1, x2, x3, x4, x5⟩ := box6 HQ1.out
  obtain ⟨y0, y1, y2, y3, y4, y5⟩ := box6 HQ2.out
  clear hb
  go_wp2_with fail
  refine (K2.out _ HB1.out).mono ?_
  rintro e W2 ⟨rfl, hb⟩
  have HB2 := Lib.hid (below_on HB1.out hb)
  clear x0 x1 x2 x3 x4 x5 y0 y1 y2 y3 y4 y5
  have HQ1 := Lib.hid (blk_keep hb HQ1.out)
  have HQ2 := Lib.hid (blk_keep hb HQ2.out)
  obtain ⟨x0, x1, x2, x3, x4, x5⟩ := box6 HQ1.out
  obtain ⟨y0, y1, y2, y3, y4, y5⟩ := box6 HQ2.out
  clear hb
  go_wp2_with fail
  refine (K3.out _ HB2.out).mono ?_
  rintro e W3 ⟨rfl, hb⟩
  have HB3 := Lib.hid (below_on HB2.out hb)
  clear x0 x1 x2 x3 x4 x5 y0 y1 y2 y3 y4 y5
  have HQ1 := Lib.hid (blk_keep hb HQ1.out)
  have HQ2 := Lib.hid (blk_keep hb HQ2.out)
  obtain ⟨x0, x1, x2, x3, x4, x5⟩ := box6 HQ1.out
  obtain ⟨y0, y1, y2, y3, y4, y5⟩ := box6 HQ2.out
  clear hb
  go_wp2_with fail
  refine (K4.out _ HB3.out).mono ?_
  rintro e W4 ⟨rfl, hb⟩
  have HB4 := Lib.hid (below_on HB3.out hb)
  clear x0 x1 x2 x3 x4 x5 y0 y1 y2 y3 y4 y5
  have HQ1 := Lib.hid (blk_keep hb HQ1.out)
  have HQ2 := Lib.hid (blk_keep hb HQ2.out)
  obtain ⟨x0, x1, x2, x3, x4, x5⟩ := box6 HQ1.out
  obtain ⟨y0, y1, y2, y3, y4, y5⟩ := box6 HQ2.out
  clear hb
  go_wp2_with fail
  go_ret
  exact ⟨rfl, HB4.out⟩
theorem wsuccM {k n : Nat} (h : k < n) (hn : n ≤ 9223372036854775807) : wrap64 ((k : Int) + 1) = (k : Int) + 1 := by unfold wrap64; omega
attribute [local irreducible] Sl.v
set_option maxHeartbeats 8000000 in
theorem samelay_to (M L : Lay) (hsm : SameLay L M) (w : World) (hM : LayAt w M) (hL : LayAt w L) :
    Calls Try.prog 13 #[.agg #[M.se.v, M.po.v, M.sg.v, M.rt.v], .agg #[L.se.v, L.po.v, L.sg.v, L.rt.v]] w fun e w' => e = .returned (.bool true) ∧ Below w.heap.size w w' := by
  have HL := Lib.hid hL
  have HM := Lib.hid hM
  have HSM := Lib.hid hsm
  obtain ⟨n1, hn1⟩ : ∃ n, L.se.l.length = n := ⟨_, rfl⟩
  obtain ⟨n2, hn2⟩ : ∃ n, L.po.l.length = n := ⟨_, rfl⟩
  obtain ⟨n3, hn3⟩ : ∃ n, L.sg.l.length = n := ⟨_, rfl⟩
  obtain ⟨n4, hn4⟩ : ∃ n, L.rt.l.length = n := ⟨_, rfl⟩
  have hm1 : M.se.l.length = n1 := by rw [hsm.se, hn1]
  have hm2 : M.po.l.length = n2 := by rw [hsm.po, hn2]
  have hm3 : M.sg.l.length = n3 := by rw [hsm.sg, hn3]
  have hm4 : M.rt.l.length = n4 := by rw [← hn4]; have := congrArg List.length hsm.rt; simpa using this
  have HLE : Hid (n2 ≤ 9223372036854775807 ∧ n3 ≤ 9223372036854775807 ∧ n4 ≤ 9223372036854775807) := Lib.hid ⟨by rw [← hn2]; exact hL.po.lenM, by rw [← hn3]; exact hL.sg.lenM, by rw [← hn4]; exact hL.rt.lenM⟩
  have KT : Hid (∀ W, Below w.heap.size w W → Calls Try.prog 32 #[.slice M.se.a n1 M.se.c, .slice L.se.a n1 L.se.c] W fun e w' => e = .returned (.bool true) ∧ Below W.heap.size W w') := Lib.hid (fun W hW => sametexts_to M.se.a n1 M.se.c L.se.l L.se.a L.se.c W hn1 (by rw [← hn1]; exact hL.se.lenM) (hsm.se ▸ (hM.se.below hW).row) (hL.se.below hW).row)
  have HN := Lib.hid (And.intro hn1 (And.intro hn2 (And.intro hn3 hn4)))
  rw [slv hn1, slv hn2, slv hn3, slv hn4, slv hm1, slv hm2, slv hm3, slv hm4]
  clear hn1 hn2 hn3 hn4 hm1 hm2 hm3 hm4 hL hM hsm
  go_enter Try.func13, Try.ntmps13
  go_upto_region 1 with fail
  refine name_last (os := [.cells #[.slice M.se.a n1 M.se.c, .slice M.po.a n2 M.po.c, .slice M.sg.a n3 M.sg.c, .slice M.rt.a n4 M.rt.c] 27, .cells #[.slice L.se.a n1 L.se.c, .slice L.po.a n2 L.po.c, .slice L.sg.a n3 L.sg.c, .slice L.rt.a n4 L.rt.c] 27]) (w0 := w) rfl ?_
  intro W hat hbw
  obtain ⟨g2, hg2⟩ : ∃ g, g = w.heap.size := ⟨_, rfl⟩
  obtain ⟨g1, hg1⟩ : ∃ g, g = g2 + 1 := ⟨_, rfl⟩
  have q2 := hat 0 _ rfl
  have q1 := hat 1 _ rfl
  rw [Nat.add_zero, ← hg2] at q2
  rw [← hg2, ← hg1] at q1
  rw [← hg2, ← hg1]
  have HQ1 := Lib.hid q1
  have HQ2 := Lib.hid q2
  have HB0 := Lib.hid hbw
  obtain ⟨x0, x1, x2, x3⟩ := box4 q1
  obtain ⟨y0, y1, y2, y3⟩ := box4 q2
  clear hat hbw hg1 hg2 q1 q2
  go_wp2_with fail
  refine (KT.out _ HB0.out).mono ?_
  rintro e W1 ⟨rfl, hb⟩
  clear x0 x1 x2 x3 y0 y1 y2 y3
  have HB0 := Lib.hid (below_on HB0.out hb)
  have HQ1 := Lib.hid (blk_keep hb HQ1.out)
  have HQ2 := Lib.hid (blk_keep hb HQ2.out)
  obtain ⟨x0, x1, x2, x3⟩ := box4 HQ1.out
  obtain ⟨y0, y1, y2, y3⟩ := box4 HQ2.out
  clear hb
  go_upto_region 4 with fail
  clear x0 x1 x2 x3 y0 y1 y2 y3
  go_loopg [5] n2 (fun g j wr => ∃ k : Nat, k + g = n2 ∧ j = .int .i64 (k : Int) ∧ Below w.heap.size w wr ∧ wr.heap[g1]? = some (.cells #[.slice L.se.a n1 L.se.c, .slice L.po.a n2 L.po.c, .slice L.sg.a n3 L.sg.c, .slice L.rt.a n4 L.rt.c] 27) ∧ wr.heap[g2]? = some (.cells #[.slice M.se.a n1 M.se.c, .slice M.po.a n2 M.po.c, .slice M.sg.a n3 M.sg.c, .slice M.rt.a n4 M.rt.c] 27))
  case atStart => exact ⟨0, by omega, rfl, HB0.out, HQ1.out, HQ2.out⟩
  case round =>
    obtain ⟨k, hk, rfl, hb, hq1, hq2⟩ := hrel
    clear HB0 HQ1 HQ2
    have HB0 := Lib.hid hb
    have HQ1 := Lib.hid hq1
    have HQ2 := Lib.hid hq2
    obtain ⟨x0, x1, x2, x3⟩ := box4 hq1
    obtain ⟨y0, y1, y2, y3⟩ := box4 hq2
    have HK := Lib.hid hk
    clear hb hq1 hq2 hk
    by_cases hlt : k < n2
    · have d1 : (0 : Int) ≤ k := by omega
      have d2 : (k : Int) < n2 := by omega
      have e1 := wsuccM hlt HLE.out.1
      obtain ⟨p, hp⟩ : ∃ p, L.po.l[k]? = some p := ⟨_, List.getElem?_eq_getElem (by rw [HN.out.2.1]; exact hlt)⟩
      have hpm : M.po.l[k]? = some p := by rw [HSM.out.po]; exact hp
      rcases (HL.out.po.below HB0.out).row with hnil | ⟨xb, o1, hxb, hc1⟩
      · rw [hnil] at hp; simp at hp
      rcases (HM.out.po.below HB0.out).row with hnil | ⟨yb, o2, hyb, hc2⟩
      · rw [hnil] at hpm; simp at hpm
      have u0 := hc1 k _ hp 0 _ rfl
      have u1 := hc1 k _ hp 1 _ rfl
      have v0 := hc2 k _ hpm 0 _ rfl
      have v1 := hc2 k _ hpm 1 _ rfl
      rw [Nat.add_zero] at u0 v0
      obtain ⟨X, hX⟩ : ∃ X, L.po.a = X := ⟨_, rfl⟩
      obtain ⟨Y, hY⟩ : ∃ Y, M.po.a = Y := ⟨_, rfl⟩
      have HXX := Lib.hid hX
      have HYY := Lib.hid hY
      rw [hX] at x1 hxb ⊢
      rw [hY] at y1 hyb ⊢
      subst hxb
      subst hyb
      have HLT := Lib.hid hlt
      clear hc1 hc2 hp hpm hX hY hlt
      go_wp2_with fail
      go_quiet (fail)
      have HB7 := Lib.hid (below_drewN HB0.out nq)
      have HQ17 : Hid (∀ m, (wr.drewN m).heap[g1]? = some (.cells #[.slice L.se.a n1 L.se.c, .slice L.po.a n2 L.po.c, .slice L.sg.a n3 L.sg.c, .slice L.rt.a n4 L.rt.c] 27)) := Lib.hid (fun m => HQ1.out)
      have HQ27 : Hid (∀ m, (wr.drewN m).heap[g2]? = some (.cells #[.slice M.se.a n1 M.se.c, .slice M.po.a n2 M.po.c, .slice M.sg.a n3 M.sg.c, .slice M.rt.a n4 M.rt.c] 27)) := Lib.hid (fun m => HQ2.out)
      go_wp2_with fail
      rw [← HXX.out, ← HYY.out]
      go_roundg (n2 - (k + 1))
      case rel => exact ⟨k + 1, by have := HK.out; have := HLT.out; omega, by go_num, HB7.out, HQ17.out _, HQ27.out _⟩
      case measure => have := HK.out; have := HLT.out; omega
    · have hkn : ¬ k < n2 := hlt
      have HKN := Lib.hid (show n2 = k by have := HK.out; omega)
      clear hlt
      go_upto_region 9 with fail
      clear x0 x1 x2 x3 y0 y1 y2 y3
      go_loopg [6] n3 (fun g j wr => ∃ k : Nat, k + g = n3 ∧ j = .int .i64 (k : Int) ∧ Below w.heap.size w wr ∧ wr.heap[g1]? = some (.cells #[.slice L.se.a n1 L.se.c, .slice L.po.a n2 L.po.c, .slice L.sg.a n3 L.sg.c, .slice L.rt.a n4 L.rt.c] 27) ∧ wr.heap[g2]? = some (.cells #[.slice M.se.a n1 M.se.c, .slice M.po.a n2 M.po.c, .slice M.sg.a n3 M.sg.c, .slice M.rt.a n4 M.rt.c] 27))
      case atStart => exact ⟨0, by omega, rfl, HB0.out, HQ1.out, HQ2.out⟩
      case round =>
        obtain ⟨k, hk, rfl, hb, hq1, hq2⟩ := hrel
        clear HB0 HQ1 HQ2
        have HB0 := Lib.hid hb
        have HQ1 := Lib.hid hq1
        have HQ2 := Lib.hid hq2
        obtain ⟨x0, x1, x2, x3⟩ := box4 hq1
        obtain ⟨y0, y1, y2, y3⟩ := box4 hq2
        have HK := Lib.hid hk
        clear hb hq1 hq2 hk
        by_cases hlt : k < n3
        · have d1 : (0 : Int) ≤ k := by omega
          have d2 : (k : Int) < n3 := by omega
          have e1 := wsuccM hlt HLE.out.2.1
          obtain ⟨p, hp⟩ : ∃ p, L.sg.l[k]? = some p := ⟨_, List.getElem?_eq_getElem (by rw [HN.out.2.2.1]; exact hlt)⟩
          have hpm : M.sg.l[k]? = some p := by rw [HSM.out.sg]; exact hp
          rcases (HL.out.sg.below HB0.out).row with hnil | ⟨xb, o1, hxb, hc1⟩
          · rw [hnil] at hp; simp at hp
          rcases (HM.out.sg.below HB0.out).row with hnil | ⟨yb, o2, hyb, hc2⟩
          · rw [hnil] at hpm; simp at hpm
          have u0 := hc1 k _ hp 0 _ rfl
          have u1 := hc1 k _ hp 1 _ rfl
          have v0 := hc2 k _ hpm 0 _ rfl
          have v1 := hc2 k _ hpm 1 _ rfl
          rw [Nat.add_zero] at u0 v0
          obtain ⟨X, hX⟩ : ∃ X, L.sg.a = X := ⟨_, rfl⟩
          obtain ⟨Y, hY⟩ : ∃ Y, M.sg.a = Y := ⟨_, rfl⟩
          have HXX := Lib.hid hX
          have HYY := Lib.hid hY
          rw [hX] at x2 hxb ⊢
          rw [hY] at y2 hyb ⊢
          subst hxb
          subst hyb
          have HLT := Lib.hid hlt
          clear hc1 hc2 hp hpm hX hY hlt
          go_wp2_with fail
          go_quiet (fail)
          have HB7 := Lib.hid (below_drewN HB0.out nq)
          have HQ17 : Hid (∀ m, (wr.drewN m).heap[g1]? = some (.cells #[.slice L.se.a n1 L.se.c, .slice L.po.a n2 L.po.c, .slice L.sg.a n3 L.sg.c, .slice L.rt.a n4 L.rt.c] 27)) := Lib.hid (fun m => HQ1.out)
          have HQ27 : Hid (∀ m, (wr.drewN m).heap[g2]? = some (.cells #[.slice M.se.a n1 M.se.c, .slice M.po.a n2 M.po.c, .slice M.sg.a n3 M.sg.c, .slice M.rt.a n4 M.rt.c] 27)) := Lib.hid (fun m => HQ2.out)
          go_wp2_with fail
          rw [← HXX.out, ← HYY.out]
          go_roundg (n3 - (k + 1))
          case rel => exact ⟨k + 1, by have := HK.out; have := HLT.out; omega, by go_num, HB7.out, HQ17.out _, HQ27.out _⟩
          case measure => have := HK.out; have := HLT.out; omega
        · have hkn : ¬ k < n3 := hlt
          have HKN := Lib.hid (show n3 = k by have := HK.out; omega)
          clear hlt
          go_upto_region 14 with fail
          clear x0 x1 x2 x3 y0 y1 y2 y3
          go_loopg [7] n4 (fun g j wr => ∃ k : Nat, k + g = n4 ∧ j = .int .i64 (k : Int) ∧ Below w.heap.size w wr ∧ wr.heap[g1]? = some (.cells #[.slice L.se.a n1 L.se.c, .slice L.po.a n2 L.po.c, .slice L.sg.a n3 L.sg.c, .slice L.rt.a n4 L.rt.c] 27) ∧ wr.heap[g2]? = some (.cells #[.slice M.se.a n1 M.se.c, .slice M.po.a n2 M.po.c, .slice M.sg.a n3 M.sg.c, .slice M.rt.a n4 M.rt.c] 27))
          case atStart => exact ⟨0, by omega, rfl, HB0.out, HQ1.out, HQ2.out⟩
          case round =>
            obtain ⟨k, hk, rfl, hb, hq1, hq2⟩ := hrel
            clear HB0 HQ1 HQ2
            have HB0 := Lib.hid hb
            have HQ1 := Lib.hid hq1
            have HQ2 := Lib.hid hq2
            have HK := Lib.hid hk
            obtain ⟨x0, x1, x2, x3⟩ := box4 hq1
            obtain ⟨y0, y1, y2, y3⟩ := box4 hq2
            clear hb hq1 hq2 hk
            by_cases hlt : k < n4
            · have d1 : (0 : Int) ≤ k := by omega
              have d2 : (k : Int) < n4 := by omega
              have e1 := wsuccM hlt HLE.out.2.2
              obtain ⟨r, hr⟩ : ∃ p, L.rt.l[k]? = some p := ⟨_, List.getElem?_eq_getElem (by rw [HN.out.2.2.2]; exact hlt)⟩
              obtain ⟨s, hs, hrs⟩ : ∃ s, M.rt.l[k]? = some s ∧ rc s = rc r := by
                have h1 : (M.rt.l.map rc)[k]? = some (rc r) := by rw [HSM.out.rt, List.getElem?_map, hr]; rfl
                rw [List.getElem?_map] at h1
                exact Option.map_eq_some_iff.1 h1
              have HC0 : Hid (∀ W, Below w.heap.size w W → Calls Try.prog 33 #[.agg #[.string s.nm, .int .i64 s.sg, s.pa.v, s.po.v, s.ov.v, s.fl.v], .agg #[.string r.nm, .int .i64 r.sg, r.pa.v, r.po.v, r.ov.v, r.fl.v]] W fun e w' => e = .returned (.bool true) ∧ Below W.heap.size W w') := Lib.hid (fun W hW => sameroute_to s r hrs W ((HM.out.rn s (List.mem_of_getElem? hs)).below hW) ((HL.out.rn r (List.mem_of_getElem? hr)).below hW))
              rcases (HL.out.rt.below HB0.out).row with hnil | ⟨xb, o1, hxb, hc⟩
              · rw [hnil] at hr; simp at hr
              rcases (HM.out.rt.below HB0.out).row with hnil | ⟨yb, o2, hyb, hc2⟩
              · rw [hnil] at hs; simp at hs
              have hyr := hr
              have z0 := hc k _ hyr 0 _ rfl
              have z1 := hc k _ hyr 1 _ rfl
              have z2 := hc k _ hyr 2 _ rfl
              have z3 := hc k _ hyr 3 _ rfl
              have z4 := hc k _ hyr 4 _ rfl
              have z5 := hc k _ hyr 5 _ rfl
              rw [Nat.add_zero] at z0
              obtain ⟨p1, hp1⟩ : ∃ n, r.pa.l.length = n := ⟨_, rfl⟩
              obtain ⟨p2, hp2⟩ : ∃ n, r.po.l.length = n := ⟨_, rfl⟩
              obtain ⟨p3, hp3⟩ : ∃ n, r.ov.l.length = n := ⟨_, rfl⟩
              obtain ⟨p4, hp4⟩ : ∃ n, r.fl.l.length = n := ⟨_, rfl⟩
              rw [slv hp1] at z2
              rw [slv hp2] at z3
              rw [slv hp3] at z4
              rw [slv hp4] at z5
              have HZA := Lib.hid (And.intro z0 (And.intro z1 (And.intro z2 (And.intro z3 (And.intro z4 z5)))))
              clear z0 z1 z2 z3 z4 z5
              have hc := hc2
              have hys := hs
              have z0 := hc k _ hys 0 _ rfl
              have z1 := hc k _ hys 1 _ rfl
              have z2 := hc k _ hys 2 _ rfl
              have z3 := hc k _ hys 3 _ rfl
              have z4 := hc k _ hys 4 _ rfl
              have z5 := hc k _ hys 5 _ rfl
              rw [Nat.add_zero] at z0
              obtain ⟨q1, hq1⟩ : ∃ n, s.pa.l.length = n := ⟨_, rfl⟩
              obtain ⟨q2, hq2⟩ : ∃ n, s.po.l.length = n := ⟨_, rfl⟩
              obtain ⟨q3, hq3⟩ : ∃ n, s.ov.l.length = n := ⟨_, rfl⟩
              obtain ⟨q4, hq4⟩ : ∃ n, s.fl.l.length = n := ⟨_, rfl⟩
              rw [slv hq1] at z2
              rw [slv hq2] at z3
              rw [slv hq3] at z4
              rw [slv hq4] at z5
              have HZB := Lib.hid (And.intro z0 (And.intro z1 (And.intro z2 (And.intro z3 (And.intro z4 z5)))))
              clear z0 z1 z2 z3 z4 z5
              obtain ⟨X, hX⟩ : ∃ X, L.rt.a = X := ⟨_, rfl⟩
              obtain ⟨Y, hY⟩ : ∃ Y, M.rt.a = Y := ⟨_, rfl⟩
              have HXX := Lib.hid hX
              have HYY := Lib.hid hY
              have hcall := HC0.out
              rw [slv hp1, slv hp2, slv hp3, slv hp4, slv hq1, slv hq2, slv hq3, slv hq4] at hcall
              have HC : Hid (∀ W, Below wr.heap.size wr W → Calls Try.prog 33 #[.agg #[.string s.nm, .int .i64 s.sg, .slice s.pa.a q1 s.pa.c, .slice s.po.a q2 s.po.c, .slice s.ov.a q3 s.ov.c, .slice s.fl.a q4 s.fl.c], .agg #[.string r.nm, .int .i64 r.sg, .slice r.pa.a p1 r.pa.c, .slice r.po.a p2 r.po.c, .slice r.ov.a p3 r.ov.c, .slice r.fl.a p4 r.fl.c]] W fun e w' => e = .returned (.bool true) ∧ Below wr.heap.size wr w') := Lib.hid (fun W hW => (hcall W (below_on HB0.out hW)).mono (fun e w9 h => ⟨h.1, below_on hW h.2⟩))
              rw [hX] at HQ1 x3 hxb ⊢
              rw [hY] at HQ2 y3 hyb ⊢
              subst hxb
              subst hyb
              have HLT := Lib.hid hlt
              clear hc hc2 hr hs hyr hys hX hY hlt hp1 hp2 hp3 hp4 hq1 hq2 hq3 hq4 hcall HC0 hrs
              go_upto_region 16 with fail
              clear x0 x1 x2 x3 y0 y1 y2 y3
              refine wp_region_calm (by kernel_rfl) ?_ ?_
              · kernel_rfl
              repeat first
               | go_big_quiet_skip
               | (go_big_quiet_want; go_big_quiet_op; go_big_quiet_on)
               | (with_reducible apply wpQuiet_step
                  intro K hK
                  go_simp
                  first
                    | (refine hK _ ?_; clear hK K)
                    | (apply Exists.intro
                       refine ⟨fun w' hw' => ?_, hK _ ?_⟩
                       ·
                         (first
                          | with_reducible exact HC.out _ hw'
                          | (have g0 := blk_cell (blk_keep hw' HQ1.out) 0 _ rfl
                             have g1 := blk_cell (blk_keep hw' HQ1.out) 1 _ rfl
                             have g2 := blk_cell (blk_keep hw' HQ1.out) 2 _ rfl
                             have g3 := blk_cell (blk_keep hw' HQ1.out) 3 _ rfl
                             go_simp
                             first | done | with_reducible exact rfl | with_reducible exact ⟨rfl, rfl⟩ | with_reducible exact HC.out _ hw')
                          | (have g0 := blk_cell (blk_keep hw' HQ2.out) 0 _ rfl
                             have g1 := blk_cell (blk_keep hw' HQ2.out) 1 _ rfl
                             have g2 := blk_cell (blk_keep hw' HQ2.out) 2 _ rfl
                             have g3 := blk_cell (blk_keep hw' HQ2.out) 3 _ rfl
                             go_simp
                             first | done | with_reducible exact rfl | with_reducible exact ⟨rfl, rfl⟩ | with_reducible exact HC.out _ hw')
                          | (have f0 := cell_later hw' HZA.out.1
                             have f1 := cell_later hw' HZA.out.2.1
                             have f2 := cell_later hw' HZA.out.2.2.1
                             have f3 := cell_later hw' HZA.out.2.2.2.1
                             have f4 := cell_later hw' HZA.out.2.2.2.2.1
                             have f5 := cell_later hw' HZA.out.2.2.2.2.2
                             go_simp
                             first | done | with_reducible exact rfl | with_reducible exact ⟨rfl, rfl⟩ | with_reducible exact HC.out _ hw')
                          | (have f0 := cell_later hw' HZB.out.1
                             have f1 := cell_later hw' HZB.out.2.1
                             have f2 := cell_later hw' HZB.out.2.2.1
                             have f3 := cell_later hw' HZB.out.2.2.2.1
                             have f4 := cell_later hw' HZB.out.2.2.2.2.1
                             have f5 := cell_later hw' HZB.out.2.2.2.2.2
                             go_simp
                             first | done | with_reducible exact rfl | with_reducible exact ⟨rfl, rfl⟩ | with_reducible exact HC.out _ hw'))
                       clear hK K))
              refine wpQuiet_nil ?_
              intro w7 hw7
              have HB7 := Lib.hid (below_on HB0.out hw7)
              have HQ17 := Lib.hid (blk_keep hw7 HQ1.out)
              have HQ27 := Lib.hid (blk_keep hw7 HQ2.out)
              clear hw7
              go_wp2_with fail
              rw [← HXX.out, ← HYY.out]
              go_roundg (n4 - (k + 1))
              case rel => exact ⟨k + 1, by have := HK.out; have := HLT.out; omega, by go_num, HB7.out, by rw [HXX.out]; exact HQ17.out, by rw [HYY.out]; exact HQ27.out⟩
              case measure => have := HK.out; have := HLT.out; omega
            · have hkn : ¬ k < n4 := hlt
              have HKN := Lib.hid (show n4 = k by have := HK.out; omega)
              clear hlt
              go_wp2_with fail
              go_ret
              exact ⟨rfl, HB0.out⟩
end Go.Proofs.Ytififkielmddpaa
