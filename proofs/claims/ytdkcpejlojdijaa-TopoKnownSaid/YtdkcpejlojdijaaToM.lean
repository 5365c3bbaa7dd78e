/-
  Walks: topo.Track, topo.Needs.
-/
import Derived.Test.YtdkcpejlojdijaaToL
namespace Go.Proofs.Ytdkcpejlojdijaa
open Go.RowKit

set_option maxRecDepth 100000 in
set_option maxHeartbeats 2000000 in
theorem track_own (r : Rt) (w : World) (hr : RtAt w r) (hlen : r.pa.l.length + r.ov.l.length ≤ 100000) :
    Calls Try.prog 9 #[.agg #[.string r.nm, .int .i64 r.sg, r.pa.v, r.po.v, r.ov.v, r.fl.v]] w fun e w' => ∃ a n c, e = .returned (.slice a n c) ∧ n = r.pa.l.length + r.ov.l.length ∧ SlAt 1 intC w' ⟨a, c, r.pa.l ++ r.ov.l⟩ ∧ Below w.heap.size w w' ∧ NewRow 1 w.heap.size w' a n := by
  obtain ⟨nm, sg, ⟨pa, pc, pl⟩, ⟨oa, oc, ol⟩, ⟨va, vc, vl⟩, ⟨fa, fc, fl⟩⟩ := r
  have hS1 := src_sl int_len int_one hr.pa
  have hS2 := src_sl int_len int_one hr.ov
  dsimp only at hS1 hS2 hlen ⊢
  obtain ⟨m1, hm1⟩ : ∃ m, pl.length = m := ⟨_, rfl⟩
  obtain ⟨m2, hm2⟩ : ∃ m, ol.length = m := ⟨_, rfl⟩
  obtain ⟨m3, hm3⟩ : ∃ m, vl.length = m := ⟨_, rfl⟩
  obtain ⟨m4, hm4⟩ : ∃ m, fl.length = m := ⟨_, rfl⟩
  rw [slv2 hm1, slv2 hm2, slv2 hm3, slv2 hm4]
  rw [hm1, hm3] at hlen ⊢
  have HM := Lib.hid (And.intro hm1 (And.intro hm2 (And.intro hm3 hm4)))
  have HC : Hid (∀ (g : Nat) (W : World), W.heap[g]? = some (.cells #[.slice pa m1 pc, .slice va m3 vc] 22) → Below w.heap.size w W → Calls Try.prog 24 #[.slice (some ⟨g, 0, none⟩) 2 2] W fun e w' => ∃ a n c, e = .returned (.slice a n c) ∧ n = m1 + m3 ∧ SlAt 1 intC w' ⟨a, c, pl ++ vl⟩ ∧ Below w.heap.size w w' ∧ NewRow 1 w.heap.size w' a n) := Lib.hid (fun g W hg hb => (concat_int2 g 22 (0, 0) pa va m1 pc m3 vc pl vl W hg (srcAt_below hS1 hb) (srcAt_below hS2 hb) hm1 hm3 hlen).mono (fun e w9 ⟨a, n, c, h1, h2, h3, h4, h5⟩ => ⟨a, n, c, h1, h2, h3, below_on hb h4, h5.mono hb.size⟩))
  clear hS1 hS2 hm1 hm2 hm3 hm4 hlen hr
  go_enter Try.func9, Try.ntmps9
  go_wp2_with fail
  refine (HC.out _ _ (alloc2' w _ _).2 (below2' w _ _)).mono ?_
  rintro e w9 ⟨a, n, c, rfl, hn, hS, hb, hN⟩
  have HN := Lib.hid hn
  have HS := Lib.hid hS
  have HNR := Lib.hid hN
  have HB := Lib.hid hb
  clear hn hS hb hN
  go_wp2_with fail
  go_ret
  exact ⟨a, n, c, rfl, HN.out, HS.out, HB.out, HNR.out⟩
theorem track_is (r : Rt) (w : World) (hr : RtAt w r) (hlen : r.pa.l.length + r.ov.l.length ≤ 100000) :
    Calls Try.prog 9 #[.agg #[.string r.nm, .int .i64 r.sg, r.pa.v, r.po.v, r.ov.v, r.fl.v]] w fun e w' => ∃ a n c, e = .returned (.slice a n c) ∧ n = r.pa.l.length + r.ov.l.length ∧ SlAt 1 intC w' ⟨a, c, r.pa.l ++ r.ov.l⟩ ∧ Below w.heap.size w w' :=
  (track_own r w hr hlen).mono (fun _ _ ⟨a, n, c, h1, h2, h3, h4, _⟩ => ⟨a, n, c, h1, h2, h3, h4⟩)

set_option maxRecDepth 100000 in
set_option maxHeartbeats 2000000 in
theorem needs_own (r : Rt) (w : World) (hr : RtAt w r) (hlen : r.po.l.length + r.fl.l.length ≤ 100000) :
    Calls Try.prog 10 #[.agg #[.string r.nm, .int .i64 r.sg, r.pa.v, r.po.v, r.ov.v, r.fl.v]] w fun e w' => ∃ a n c, e = .returned (.slice a n c) ∧ n = r.po.l.length + r.fl.l.length ∧ SlAt 2 ndC w' ⟨a, c, r.po.l ++ r.fl.l⟩ ∧ Below w.heap.size w w' ∧ NewRow 2 w.heap.size w' a n := by
  obtain ⟨nm, sg, ⟨pa, pc, pl⟩, ⟨oa, oc, ol⟩, ⟨va, vc, vl⟩, ⟨fa, fc, fl⟩⟩ := r
  have hS1 := src_sl nd_len nd_one hr.po
  have hS2 := src_sl nd_len nd_one hr.fl
  dsimp only at hS1 hS2 hlen ⊢
  obtain ⟨m1, hm1⟩ : ∃ m, pl.length = m := ⟨_, rfl⟩
  obtain ⟨m2, hm2⟩ : ∃ m, ol.length = m := ⟨_, rfl⟩
  obtain ⟨m3, hm3⟩ : ∃ m, vl.length = m := ⟨_, rfl⟩
  obtain ⟨m4, hm4⟩ : ∃ m, fl.length = m := ⟨_, rfl⟩
  rw [slv2 hm1, slv2 hm2, slv2 hm3, slv2 hm4]
  rw [hm2, hm4] at hlen ⊢
  have HM := Lib.hid (And.intro hm1 (And.intro hm2 (And.intro hm3 hm4)))
  have HC : Hid (∀ (g : Nat) (W : World), W.heap[g]? = some (.cells #[.slice oa m2 oc, .slice fa m4 fc] 23) → Below w.heap.size w W → Calls Try.prog 25 #[.slice (some ⟨g, 0, none⟩) 2 2] W fun e w' => ∃ a n c, e = .returned (.slice a n c) ∧ n = m2 + m4 ∧ SlAt 2 ndC w' ⟨a, c, ol ++ fl⟩ ∧ Below w.heap.size w w' ∧ NewRow 2 w.heap.size w' a n) := Lib.hid (fun g W hg hb => (concat_nd2 g 23 (0, 0) oa fa m2 oc m4 fc ol fl W hg (srcAt_below hS1 hb) (srcAt_below hS2 hb) hm2 hm4 hlen).mono (fun e w9 ⟨a, n, c, h1, h2, h3, h4, h5⟩ => ⟨a, n, c, h1, h2, h3, below_on hb h4, h5.mono hb.size⟩))
  clear hS1 hS2 hm1 hm2 hm3 hm4 hlen hr
  go_enter Try.func10, Try.ntmps10
  go_wp2_with fail
  refine (HC.out _ _ (alloc2' w _ _).2 (below2' w _ _)).mono ?_
  rintro e w9 ⟨a, n, c, rfl, hn, hS, hb, hN⟩
  have HN := Lib.hid hn
  have HS := Lib.hid hS
  have HNR := Lib.hid hN
  have HB := Lib.hid hb
  clear hn hS hb hN
  go_wp2_with fail
  go_ret
  exact ⟨a, n, c, rfl, HN.out, HS.out, HB.out, HNR.out⟩
theorem needs_is (r : Rt) (w : World) (hr : RtAt w r) (hlen : r.po.l.length + r.fl.l.length ≤ 100000) :
    Calls Try.prog 10 #[.agg #[.string r.nm, .int .i64 r.sg, r.pa.v, r.po.v, r.ov.v, r.fl.v]] w fun e w' => ∃ a n c, e = .returned (.slice a n c) ∧ n = r.po.l.length + r.fl.l.length ∧ SlAt 2 ndC w' ⟨a, c, r.po.l ++ r.fl.l⟩ ∧ Below w.heap.size w w' :=
  (needs_own r w hr hlen).mono (fun _ _ ⟨a, n, c, h1, h2, h3, h4, _⟩ => ⟨a, n, c, h1, h2, h3, h4⟩)
end Go.Proofs.Ytdkcpejlojdijaa
