/-
 Layer 06: conflict.sides, how a route needs points.
-/
import Derived.Test.YtpohoannggdbjaaMC
namespace Go.Proofs.Ytpohoannggdbjaa
open Go.RowKit Go.Shelf
set_option maxRecDepth 100000
attribute [local go_sem] Oper.semAt_some
attribute [local irreducible] bkL Sl.v
theorem ownFrom_sd {β : Type} {B gm : Nat} {f : β → Int → Option Bool} (hB : gm < B) : OwnFrom B (fun (s : β) W => SdAt W gm (f s)) := by
 rintro s W W' row ⟨es, clock, K, h1, h2⟩ hg hr
 refine ⟨es, clock, K, (hg.block gm (blk_lt h1) (fun e => ?_)).trans h1, h2⟩
 have := (hr gm e.symm).1
 omega
/-- what the map tells when some needs are written, from the last one on -/
def sdF (pre : List (Nat × (Int × Bool))) (p : Int) : Option Bool := ndAt ((pre.map (·.2)).reverse) p
theorem sdF_nil (p : Int) : sdF [] p = none := rfl
theorem sdF_snoc (pre : List (Nat × (Int × Bool))) (x : Nat × (Int × Bool)) (p : Int) : sdF (pre ++ [x]) p = if p = x.2.1 then some x.2.2 else sdF pre p := by
 unfold sdF
 rw [List.map_append, List.reverse_append]
 show (if x.2.1 = p then some x.2.2 else ndAt ((pre.map (·.2)).reverse) p) = _
 by_cases h : p = x.2.1
 ·rw [if_pos h, if_pos h.symm]
 ·rw [if_neg h, if_neg (fun e => h e.symm)]
theorem sdF_all (l : List (Int × Bool)) (p : Int) : sdF (bkL l) p = ndAt l p := by
 unfold sdF bkL
 rw [List.map_reverse, List.reverse_reverse, List.map_map]
 congr 1
 show List.map (fun p => p.1) l.zipIdx = l
 exact List.zipIdx_map_fst 0 l
set_option maxHeartbeats 4000000 in
theorem sides_is (r : Rt) (w : World) (hr : RtAt w r) (hle : r.po.l.length + r.fl.l.length ≤ 100000) :
 Calls Try.prog 66 #[.agg #[.string r.nm, .int .i64 r.sg, r.pa.v, r.po.v, r.ov.v, r.fl.v]] w fun e w' => ∃ g, e = .returned (.map (some g)) ∧ SdAt w' g (ndAt r.nd) ∧ Below w.heap.size w w' := by
 have HND : Hid (∀ W, Below w.heap.size w W → Calls Try.prog 15 #[.agg #[.string r.nm, .int .i64 r.sg, r.pa.v, r.po.v, r.ov.v, r.fl.v]] W fun e w' => ∃ a n c, e = .returned (.slice a n c) ∧ n = r.po.l.length + r.fl.l.length ∧ SlAt 2 ndC w' ⟨a, c, r.nd⟩ ∧ Below W.heap.size W w') := Lib.hid (fun W hb => needs_is r W (hr.below hb) hle)
 obtain ⟨m1, hm1⟩ : ∃ n, r.pa.l.length = n := ⟨_, rfl⟩
 obtain ⟨m2, hm2⟩ : ∃ n, r.po.l.length = n := ⟨_, rfl⟩
 obtain ⟨m3, hm3⟩ : ∃ n, r.ov.l.length = n := ⟨_, rfl⟩
 obtain ⟨m4, hm4⟩ : ∃ n, r.fl.l.length = n := ⟨_, rfl⟩
 obtain ⟨m, hm⟩ : ∃ m, m2 + m4 = m := ⟨_, rfl⟩
 have HNL : Hid (r.nd.length = m) := Lib.hid (by rw [← hm, ← hm2, ← hm4]; exact List.length_append)
 have HML : Hid (m ≤ 100000) := Lib.hid (by omega)
 rw [hm2, hm4, hm] at HND
 rw [slv hm1, slv hm2, slv hm3, slv hm4] at HND ⊢
 clear hm1 hm2 hm3 hm4 hr hle hm
 have hmm : ∀ (t : TypeId) (w : World), (Instr.makeMap t none).run Try.prog w = .ok (.map (some w.heap.size)) (w.alloc (.map #[] 0)) := fun t w => by simp [Instr.makeMap, Result.andThen]
 obtain ⟨gr, hgr⟩ : ∃ g, g = w.heap.size := ⟨_, rfl⟩
 refine (callsIn_wide (n := 6)).1 ?_
 refine callsIn_of_wp_marks Try.func66 rfl trivial ?_ rfl
 simp only [Try.ntmps66, List.size_toArray, List.length_cons, List.length_nil, Nat.reduceAdd, Nat.reduceSub, Array.replicate_succ, Array.replicate_zero, List.push_toArray, List.append_toArray, List.nil_append, List.cons_append]
 gi_wp2
 refine ⟨trivial, ?_⟩
 obtain ⟨W0, hW0⟩ : ∃ W, W = ((w.alloc (.cells #[.string r.nm, .int .i64 r.sg, .slice r.pa.a m1 r.pa.c, .slice r.po.a m2 r.po.c, .slice r.ov.a m3 r.ov.c, .slice r.fl.a m4 r.fl.c] 58)).alloc (.map #[] 0)).alloc (.cells #[.map (some (w.heap.size + 1))] 139) := ⟨_, rfl⟩
 rw [← hW0]
 have at_ := allocs_at [.cells #[.string r.nm, .int .i64 r.sg, .slice r.pa.a m1 r.pa.c, .slice r.po.a m2 r.po.c, .slice r.ov.a m3 r.ov.c, .slice r.fl.a m4 r.fl.c] 58, .map #[] 0, .cells #[.map (some (w.heap.size + 1))] 139] w
 have bl_ := allocs_below [.cells #[.string r.nm, .int .i64 r.sg, .slice r.pa.a m1 r.pa.c, .slice r.po.a m2 r.po.c, .slice r.ov.a m3 r.ov.c, .slice r.fl.a m4 r.fl.c] 58, .map #[] 0, .cells #[.map (some (w.heap.size + 1))] 139] w
 rw [show List.foldl World.alloc w [.cells #[.string r.nm, .int .i64 r.sg, .slice r.pa.a m1 r.pa.c, .slice r.po.a m2 r.po.c, .slice r.ov.a m3 r.ov.c, .slice r.fl.a m4 r.fl.c] 58, .map #[] 0, .cells #[.map (some (w.heap.size + 1))] 139] = W0 by rw [hW0]; rfl] at at_ bl_
 have q1 := at_ 1 _ rfl
 have q2 := at_ 2 _ rfl
 obtain ⟨gm, hgm⟩ : ∃ g, g = w.heap.size + 1 := ⟨_, rfl⟩
 obtain ⟨gb, hgb⟩ : ∃ g, g = gm + 1 := ⟨_, rfl⟩
 rw [← hgm] at q1 q2
 rw [show w.heap.size + 2 = gb by omega] at q2
 rw [← hgm, ← hgb]
 have HG := Lib.hid (show w.heap.size < gm ∧ gm < gb by omega)
 have HQ1 : Hid (SdAt W0 gm (sdF [])) := Lib.hid ⟨_, _, [], q1, rfl, List.nodup_nil, fun p => rfl⟩
 have HQ2 := Lib.hid q2
 have HB0 := Lib.hid bl_
 clear at_ bl_ q1 q2 hgm hgb hW0 hgr hmm
 refine (callsIn_wide.2 (HND.out _ HB0.out)).mono ?_
 rintro e w1 ⟨na, nn, nc, rfl, hn, hs, hb⟩
 obtain rfl : m = nn := hn.symm
 have HS := Lib.hid hs.row
 have HQ1 := Lib.hid (HQ1.out.below hb)
 have HQ2 := Lib.hid (blk_keep hb HQ2.out)
 have HB1 := Lib.hid (below_on HB0.out hb)
 clear hs hb HND HB0
 gi_wp2
 refine ⟨trivial, ?_⟩
 refine (callsIn_wide.2 (backward_any na m nc _)).mono ?_
 rintro e w' ⟨rfl, rfl⟩
 have hbn := below1 w1 (.cells #[.slice na m nc] 56)
 have hqn := alloc1 w1 (.cells #[.slice na m nc] 56) (Below.refl _ _)
 obtain ⟨w2, hw2⟩ : ∃ W, W = w1.alloc (.cells #[.slice na m nc] 56) := ⟨_, rfl⟩
 rw [← hw2] at hbn hqn ⊢
 obtain ⟨gn, hgn⟩ : ∃ g, g = w1.heap.size := ⟨_, rfl⟩
 rw [← hgn] at hqn ⊢
 have HQ1 := Lib.hid (HQ1.out.below hbn)
 have HQ2 := Lib.hid (blk_keep hbn HQ2.out)
 have HB2 := Lib.hid (below_on HB1.out hbn)
 have HS2 := Lib.hid (HS.out.below hbn)
 have HQN := Lib.hid hqn
 have HLT : Hid (gm < w2.heap.size ∧ gb < w2.heap.size) := Lib.hid ⟨by have := blk_lt HQ2.out; have := HG.out; omega, blk_lt HQ2.out⟩
 clear hbn hqn hw2 hgn HB1 HS
 gi_wp2
 refine wpIn_rangeFunc_ownH rfl (by omega) (gf := 69) (lb := #[.pointer (some ⟨gn, 0, none⟩)]) rfl trivial (enters_of Try.func69 (by kernel_rfl) rfl)
  (back_stops 5 (by omega) gn m nc na r.nd w2 HNL.out HML.out HS2.out HQN.out) kpC_t (fun W l o o' _ hl ho _ => kpC_b W l o o' hl ho) (Below.refl _ _) (fun _ => rfl)
  (fun (pre : List (Nat × (Int × Bool))) W => (SdAt W gm (sdF pre) ∧ Boxed W gb 139 (.map (some gm))) ∧ Below w.heap.size w W)
  (fun _ _ _ => False)
  (OwnFrom.and (OwnFrom.and (ownFrom_sd HLT.out.1) (Own.from (boxed_own gb _ (fun (_ : List (Nat × (Int × Bool))) => Value.map (some gm))) _)) (ownFrom_below (Nat.le_refl _) HB2.out.size))
  (fun _ _ _ _ _ hs _ _ => hs)
  ⟨⟨HQ1.out, HQ2.out⟩, HB2.out⟩
  (fun x a' W => ∃ g, gm ≠ g ∧ a' = { tmps := #[.agg #[.string r.nm, .int .i64 r.sg, .slice r.pa.a m1 r.pa.c, .slice r.po.a m2 r.po.c, .slice r.ov.a m3 r.ov.c, .slice r.fl.a m4 r.fl.c], .pointer (some ⟨w.heap.size, 0, none⟩), .map none, .pointer (some ⟨gb, 0, none⟩), undef, .pointer (some ⟨g, 0, none⟩), .map (some gm), .agg #[.string r.nm, .int .i64 r.sg, .slice r.pa.a m1 r.pa.c, .slice r.po.a m2 r.po.c, .slice r.ov.a m3 r.ov.c, .slice r.fl.a m4 r.fl.c], .slice na m nc, .func (.func 69) #[] #[.pointer (some ⟨gn, 0, none⟩)], .int .i64 (x.1 : Int), .agg #[.int .i64 x.2.1, .bool x.2.2], undef, undef, undef, undef, undef, undef], defers := [] } ∧ W.heap[g]? = some (.cells #[.int .i64 x.2.1, .bool x.2.2] 55))
  ?hAx ?assign ?body ?done ?stop
 case hAx =>
  rintro x a' s W W' row ⟨g, hne, ha, hg⟩ hgr hr
  refine ⟨g, hne, ha, (hgr.block g (blk_lt hg) (fun e => ?_)).trans hg⟩
  obtain ⟨_, o, ho, hc⟩ := hr g e.symm
  rw [hg] at ho
  injection ho with ho
  rw [← ho] at hc
  cases hc
 case assign =>
  rintro l pre ⟨k, y0, y1⟩ W K ⟨⟨h1, h2⟩, h3⟩ hK
  have hlt := h2.lt
  simp only [encB]
  gi_wp2
  have hb := below1 W (.cells #[.int .i64 y0, .bool y1] 55)
  refine hK _ _ ((KeepsOthers.alloc W _).from _) (kpC_below hb) ⟨⟨h1.below hb, blk_keep hb h2⟩, below_on h3 hb⟩ ⟨W.heap.size, ?_, rfl, alloc1 W _ (Below.refl _ _)⟩
  have := HG.out
  omega
 case body =>
  rintro l pre ⟨k, y0, y1⟩ a' W hl hrec ⟨⟨h1, h2⟩, h3⟩ ⟨g, hne, rfl, hg⟩ hlen
  have e2 := h2.cell
  have g0 := blk_cell hg 0 _ rfl
  have g1 := blk_cell hg 1 _ rfl
  obtain ⟨W1, hup, hs, ho⟩ := run_sd_put (p := y0) y1 h1
  have hnm : ∀ cs t fr, W.heap[gm]? ≠ some (Obj.cells cs t fr) := by
   obtain ⟨es, clock, K0, hh, _⟩ := h1
   intro cs t fr e
   rw [hh] at e
   cases e
  have hsf : SdAt W1 gm (sdF (pre ++ [(k, (y0, y1))])) := by
   have : (fun q => if q = y0 then some y1 else sdF pre q) = sdF (pre ++ [(k, (y0, y1))]) := by
    funext q
    rw [sdF_snoc]
   rw [← this]
   exact hs
  have hgs := HG.out
  have hlt := HLT.out
  have hfin : KeepsFrom w2.heap.size W W1 ∧ KpC W W1 ∧ ((SdAt W1 gm (sdF (pre ++ [(k, (y0, y1))])) ∧ Boxed W1 gb 139 (.map (some gm))) ∧ Below w.heap.size w W1) :=
   ⟨⟨ho.size, fun j o hB hj _ => ho.keep (by omega) hj⟩, fun j cs t fr hj => ho.keep (fun e => by subst e; exact hnm _ _ _ hj) hj, ⟨hsf, ho.keep (by omega) h2⟩, Only.below h3 (by omega) h3.size ho⟩
  have HF := Lib.hid hfin
  clear hs ho hnm hsf hfin h1 h2 h3 hg
  gi_wp2
  exact HF.out
 case done =>
  rintro D ys W hD rfl ⟨⟨h1, h2⟩, h3⟩ hK
  have hc := h2.cell
  have hlt := HLT.out
  gi_wp2
  refine ⟨by simp, .inl ⟨_, _, rfl, run_takeDeferred hK, ?_⟩⟩
  refine ⟨_, results_tmp rfl _ _ _, gm, rfl, ?_, h3.trans (belowK_b (w := w) (Nat.le_refl _) W D _ _ (by have := HB2.out.size; omega) hK rfl rfl)⟩
  obtain ⟨es, clock, K0, hh, hp, hnd, hf⟩ := h1
  refine ⟨es, clock, K0, (World.putObj_heap_other (by omega)).trans hh, hp, hnd, fun p => ?_⟩
  rw [hf p, sdF_all]
 case stop =>
  rintro D c pre W _ _ h _
  exact h.elim
end Go.Proofs.Ytpohoannggdbjaa
