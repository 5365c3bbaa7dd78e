/-
  Layer 06: conflict.reasons, conflict.conflict.
-/
import Derived.Test.YtjienmjpfklgeaaCoG
import Derived.Test.YtjienmjpfklgeaaMC
namespace Go.Proofs.Ytjienmjpfklgeaa
open Go.RowKit Go.Shelf
set_option maxRecDepth 100000
attribute [local go_sem] Oper.semAt_some
attribute [local irreducible] hasI ndAt Sl.v ptBad Rt.tr Rt.nd reasonsS conflictS

theorem cf_any (L : Lay) (a b : Rt) : conflictS L a b = (reasonsS L a b).any id := by unfold conflictS; rfl
theorem reasons_any (L : Lay) (a b : Rt) (n1 n2 n3 n4 a1 a2 a3 a4 b1 b2 b3 b4 : Nat) (w : World) :
    Calls Try.prog 98 #[.agg #[.slice L.se.a n1 L.se.c, .slice L.po.a n2 L.po.c, .slice L.sg.a n3 L.sg.c, .slice L.rt.a n4 L.rt.c], .agg #[.string a.nm, .int .i64 a.sg, .slice a.pa.a a1 a.pa.c, .slice a.po.a a2 a.po.c, .slice a.ov.a a3 a.ov.c, .slice a.fl.a a4 a.fl.c], .agg #[.string b.nm, .int .i64 b.sg, .slice b.pa.a b1 b.pa.c, .slice b.po.a b2 b.po.c, .slice b.ov.a b3 b.ov.c, .slice b.fl.a b4 b.fl.c]] w fun e w' => e = .returned (.func (.func 105) #[] #[.pointer (some ⟨w.heap.size + 1, 0, none⟩), .pointer (some ⟨w.heap.size + 1 + 1, 0, none⟩), .pointer (some ⟨w.heap.size, 0, none⟩)]) ∧ w' = ((w.alloc (.cells #[.slice L.se.a n1 L.se.c, .slice L.po.a n2 L.po.c, .slice L.sg.a n3 L.sg.c, .slice L.rt.a n4 L.rt.c] 27)).alloc (.cells #[.string a.nm, .int .i64 a.sg, .slice a.pa.a a1 a.pa.c, .slice a.po.a a2 a.po.c, .slice a.ov.a a3 a.ov.c, .slice a.fl.a a4 a.fl.c] 44)).alloc (.cells #[.string b.nm, .int .i64 b.sg, .slice b.pa.a b1 b.pa.c, .slice b.po.a b2 b.po.c, .slice b.ov.a b3 b.ov.c, .slice b.fl.a b4 b.fl.c] 44) := by
  go_enter Try.func98, Try.ntmps98
  go_wp2_with fail
  go_ret
  exact ⟨rfl, rfl⟩
set_option maxHeartbeats 4000000 in
theorem conflict_is (L : Lay) (a b : Rt) (w : World) (hL : LayAt w L) (ha : RtAt w a) (hb : RtAt w b) (hl2 : L.po.l.length ≤ 100000) (hla : a.pa.l.length + a.ov.l.length ≤ 100000 ∧ a.po.l.length + a.fl.l.length ≤ 100000) (hlb : b.pa.l.length + b.ov.l.length ≤ 100000 ∧ b.po.l.length + b.fl.l.length ≤ 100000) :
    Calls Try.prog 70 #[.agg #[L.se.v, L.po.v, L.sg.v, L.rt.v], .agg #[.string a.nm, .int .i64 a.sg, a.pa.v, a.po.v, a.ov.v, a.fl.v], .agg #[.string b.nm, .int .i64 b.sg, b.pa.v, b.po.v, b.ov.v, b.fl.v]] w fun e w' => e = .returned (.bool (conflictS L a b)) ∧ Below w.heap.size w w' := by
  obtain ⟨n1, hn1⟩ : ∃ n, L.se.l.length = n := ⟨_, rfl⟩
  obtain ⟨n2, hn2⟩ : ∃ n, L.po.l.length = n := ⟨_, rfl⟩
  obtain ⟨n3, hn3⟩ : ∃ n, L.sg.l.length = n := ⟨_, rfl⟩
  obtain ⟨n4, hn4⟩ : ∃ n, L.rt.l.length = n := ⟨_, rfl⟩
  obtain ⟨a1, ha1⟩ : ∃ n, a.pa.l.length = n := ⟨_, rfl⟩
  obtain ⟨a2, ha2⟩ : ∃ n, a.po.l.length = n := ⟨_, rfl⟩
  obtain ⟨a3, ha3⟩ : ∃ n, a.ov.l.length = n := ⟨_, rfl⟩
  obtain ⟨a4, ha4⟩ : ∃ n, a.fl.l.length = n := ⟨_, rfl⟩
  obtain ⟨b1, hb1⟩ : ∃ n, b.pa.l.length = n := ⟨_, rfl⟩
  obtain ⟨b2, hb2⟩ : ∃ n, b.po.l.length = n := ⟨_, rfl⟩
  obtain ⟨b3, hb3⟩ : ∃ n, b.ov.l.length = n := ⟨_, rfl⟩
  obtain ⟨b4, hb4⟩ : ∃ n, b.fl.l.length = n := ⟨_, rfl⟩
  rw [slv hn1, slv hn2, slv hn3, slv hn4, slv ha1, slv ha2, slv ha3, slv ha4, slv hb1, slv hb2, slv hb3, slv hb4]
  rw [ha1, ha2, ha3, ha4] at hla
  rw [hb1, hb2, hb3, hb4] at hlb
  rw [hn2] at hl2
  have HL := Lib.hid hL
  have HRA := Lib.hid ha
  have HRB := Lib.hid hb
  clear hL ha hb
  refine (callsIn_wide (n := 6)).1 ?_
  refine callsIn_of_wp_marks Try.func70 rfl trivial ?_ rfl
  simp only [Try.ntmps70, List.size_toArray, List.length_cons, List.length_nil, Nat.reduceAdd, Nat.reduceSub, Array.replicate_succ, Array.replicate_zero, List.push_toArray, List.append_toArray, List.nil_append, List.cons_append]
  gi_wp2
  refine ⟨trivial, ?_⟩
  refine (callsIn_wide.2 (reasons_any L a b n1 n2 n3 n4 a1 a2 a3 a4 b1 b2 b3 b4 _)).mono ?_
  rintro e w' ⟨rfl, rfl⟩
  obtain ⟨w4, hw4⟩ : ∃ V, V = (((w.alloc (.cells #[.slice L.se.a n1 L.se.c, .slice L.po.a n2 L.po.c, .slice L.sg.a n3 L.sg.c, .slice L.rt.a n4 L.rt.c] 27)).alloc (.cells #[.string a.nm, .int .i64 a.sg, .slice a.pa.a a1 a.pa.c, .slice a.po.a a2 a.po.c, .slice a.ov.a a3 a.ov.c, .slice a.fl.a a4 a.fl.c] 44)).alloc (.cells #[.string b.nm, .int .i64 b.sg, .slice b.pa.a b1 b.pa.c, .slice b.po.a b2 b.po.c, .slice b.ov.a b3 b.ov.c, .slice b.fl.a b4 b.fl.c] 44)).alloc (.cells #[.bool false] 4) := ⟨_, rfl⟩
  have at4 := allocs_at [.cells #[.slice L.se.a n1 L.se.c, .slice L.po.a n2 L.po.c, .slice L.sg.a n3 L.sg.c, .slice L.rt.a n4 L.rt.c] 27, .cells #[.string a.nm, .int .i64 a.sg, .slice a.pa.a a1 a.pa.c, .slice a.po.a a2 a.po.c, .slice a.ov.a a3 a.ov.c, .slice a.fl.a a4 a.fl.c] 44, .cells #[.string b.nm, .int .i64 b.sg, .slice b.pa.a b1 b.pa.c, .slice b.po.a b2 b.po.c, .slice b.ov.a b3 b.ov.c, .slice b.fl.a b4 b.fl.c] 44, .cells #[.bool false] 4] w
  have bl4 := allocs_below [.cells #[.slice L.se.a n1 L.se.c, .slice L.po.a n2 L.po.c, .slice L.sg.a n3 L.sg.c, .slice L.rt.a n4 L.rt.c] 27, .cells #[.string a.nm, .int .i64 a.sg, .slice a.pa.a a1 a.pa.c, .slice a.po.a a2 a.po.c, .slice a.ov.a a3 a.ov.c, .slice a.fl.a a4 a.fl.c] 44, .cells #[.string b.nm, .int .i64 b.sg, .slice b.pa.a b1 b.pa.c, .slice b.po.a b2 b.po.c, .slice b.ov.a b3 b.ov.c, .slice b.fl.a b4 b.fl.c] 44, .cells #[.bool false] 4] w
  rw [show List.foldl World.alloc w [.cells #[.slice L.se.a n1 L.se.c, .slice L.po.a n2 L.po.c, .slice L.sg.a n3 L.sg.c, .slice L.rt.a n4 L.rt.c] 27, .cells #[.string a.nm, .int .i64 a.sg, .slice a.pa.a a1 a.pa.c, .slice a.po.a a2 a.po.c, .slice a.ov.a a3 a.ov.c, .slice a.fl.a a4 a.fl.c] 44, .cells #[.string b.nm, .int .i64 b.sg, .slice b.pa.a b1 b.pa.c, .slice b.po.a b2 b.po.c, .slice b.ov.a b3 b.ov.c, .slice b.fl.a b4 b.fl.c] 44, .cells #[.bool false] 4] = w4 by rw [hw4]; rfl] at at4 bl4
  rw [← hw4]
  have qres := at4 3 _ rfl
  have hs4 : w4.heap.size = w.heap.size + 4 := by rw [hw4]; simp
  obtain ⟨w5, hw5⟩ : ∃ V, V = ((w4.alloc (.cells #[.slice L.se.a n1 L.se.c, .slice L.po.a n2 L.po.c, .slice L.sg.a n3 L.sg.c, .slice L.rt.a n4 L.rt.c] 27)).alloc (.cells #[.string a.nm, .int .i64 a.sg, .slice a.pa.a a1 a.pa.c, .slice a.po.a a2 a.po.c, .slice a.ov.a a3 a.ov.c, .slice a.fl.a a4 a.fl.c] 44)).alloc (.cells #[.string b.nm, .int .i64 b.sg, .slice b.pa.a b1 b.pa.c, .slice b.po.a b2 b.po.c, .slice b.ov.a b3 b.ov.c, .slice b.fl.a b4 b.fl.c] 44) := ⟨_, rfl⟩
  have at5 := allocs_at [.cells #[.slice L.se.a n1 L.se.c, .slice L.po.a n2 L.po.c, .slice L.sg.a n3 L.sg.c, .slice L.rt.a n4 L.rt.c] 27, .cells #[.string a.nm, .int .i64 a.sg, .slice a.pa.a a1 a.pa.c, .slice a.po.a a2 a.po.c, .slice a.ov.a a3 a.ov.c, .slice a.fl.a a4 a.fl.c] 44, .cells #[.string b.nm, .int .i64 b.sg, .slice b.pa.a b1 b.pa.c, .slice b.po.a b2 b.po.c, .slice b.ov.a b3 b.ov.c, .slice b.fl.a b4 b.fl.c] 44] w4
  have bl5 := allocs_below [.cells #[.slice L.se.a n1 L.se.c, .slice L.po.a n2 L.po.c, .slice L.sg.a n3 L.sg.c, .slice L.rt.a n4 L.rt.c] 27, .cells #[.string a.nm, .int .i64 a.sg, .slice a.pa.a a1 a.pa.c, .slice a.po.a a2 a.po.c, .slice a.ov.a a3 a.ov.c, .slice a.fl.a a4 a.fl.c] 44, .cells #[.string b.nm, .int .i64 b.sg, .slice b.pa.a b1 b.pa.c, .slice b.po.a b2 b.po.c, .slice b.ov.a b3 b.ov.c, .slice b.fl.a b4 b.fl.c] 44] w4
  rw [show List.foldl World.alloc w4 [.cells #[.slice L.se.a n1 L.se.c, .slice L.po.a n2 L.po.c, .slice L.sg.a n3 L.sg.c, .slice L.rt.a n4 L.rt.c] 27, .cells #[.string a.nm, .int .i64 a.sg, .slice a.pa.a a1 a.pa.c, .slice a.po.a a2 a.po.c, .slice a.ov.a a3 a.ov.c, .slice a.fl.a a4 a.fl.c] 44, .cells #[.string b.nm, .int .i64 b.sg, .slice b.pa.a b1 b.pa.c, .slice b.po.a b2 b.po.c, .slice b.ov.a b3 b.ov.c, .slice b.fl.a b4 b.fl.c] 44] = w5 by rw [hw5]; rfl] at at5 bl5
  rw [← hw5]
  have q0 := at5 0 _ rfl
  have q1 := at5 1 _ rfl
  have q2 := at5 2 _ rfl
  rw [Nat.add_zero] at q0
  have hbw := below_on bl4 bl5
  have qres := blk_keep bl5 qres
  have hs5 : w5.heap.size = w4.heap.size + 3 := by rw [hw5]; simp
  clear at4 at5 hw4 hw5
  rw [hs4] at q0 q1 q2
  have hRe : ReAt w5 (w.heap.size + 4 + 1) (w.heap.size + 4 + 1 + 1) (w.heap.size + 4) L a b n2 (.slice L.se.a n1 L.se.c) (.slice L.sg.a n3 L.sg.c) (.slice L.rt.a n4 L.rt.c) #[.string a.nm, .int .i64 a.sg, .slice a.pa.a a1 a.pa.c, .slice a.po.a a2 a.po.c, .slice a.ov.a a3 a.ov.c, .slice a.fl.a a4 a.fl.c] #[.string b.nm, .int .i64 b.sg, .slice b.pa.a b1 b.pa.c, .slice b.po.a b2 b.po.c, .slice b.ov.a b3 b.ov.c, .slice b.fl.a b4 b.fl.c] := ⟨q1, q2, q0, HL.out.po.row.below hbw, HRA.out.below hbw, HRB.out.below hbw⟩
  have hlt5 : w.heap.size + 3 < w5.heap.size := blk_lt qres
  have HRE := Lib.hid hRe
  have HB5 := Lib.hid hbw
  have HQR := Lib.hid qres
  have HS5 := Lib.hid (show w.heap.size ≤ w5.heap.size from hbw.size)
  have HL5 := Lib.hid hlt5
  clear q0 q1 q2 hRe hbw qres bl4 bl5 hs5 hlt5
  gi_wp2
  refine wpIn_rangeFunc_ownG rfl (by omega) (gf := 105) (lb := #[.pointer (some ⟨w.heap.size + 4 + 1, 0, none⟩), .pointer (some ⟨w.heap.size + 4 + 1 + 1, 0, none⟩), .pointer (some ⟨w.heap.size + 4, 0, none⟩)]) rfl trivial (enters_of Try.func105 (by kernel_rfl) rfl)
    (reasons_stops 5 (by omega) _ _ _ L a b n2 _ _ _ a1 a2 a3 a4 b1 b2 b3 b4 w5 HRE.out hn2 hl2 ha1 ha2 ha3 ha4 hb1 hb2 hb3 hb4 ⟨hla.1, hla.2⟩ ⟨hlb.1, hlb.2⟩) (fun h k => h.t k) (fun W l o o' _ hl ho hw => kpA_b W l o o' hl ho hw) (Below.refl _ _) (fun _ => rfl)
    (fun (pre : List Bool) W => (Boxed W (w.heap.size + 3) 4 (.bool false) ∧ pre.any id = false) ∧ Below w.heap.size w W)
    (fun c pre W => ((c = Code.ret ∧ pre.any id = true) ∧ Boxed W (w.heap.size + 3) 4 (.bool true)) ∧ Below w.heap.size w W)
    (OwnFrom.and (OwnFrom.and (Own.from (boxed_own _ _ (fun (_ : List Bool) => Value.bool false)) _) (fun _ _ _ _ hs _ _ => hs)) (ownFrom_below (Nat.le_refl _) HS5.out))
    (fun c => OwnFrom.and (OwnFrom.and (fun _ _ _ _ hs _ _ => hs) (Own.from (boxed_own _ _ (fun (_ : List Bool) => Value.bool true)) _)) (ownFrom_below (Nat.le_refl _) HS5.out))
    ⟨⟨HQR.out, rfl⟩, HB5.out⟩
    (fun m => { tmps := #[.agg #[.slice L.se.a n1 L.se.c, .slice L.po.a n2 L.po.c, .slice L.sg.a n3 L.sg.c, .slice L.rt.a n4 L.rt.c], .agg #[.string a.nm, .int .i64 a.sg, .slice a.pa.a a1 a.pa.c, .slice a.po.a a2 a.po.c, .slice a.ov.a a3 a.ov.c, .slice a.fl.a a4 a.fl.c], .agg #[.string b.nm, .int .i64 b.sg, .slice b.pa.a b1 b.pa.c, .slice b.po.a b2 b.po.c, .slice b.ov.a b3 b.ov.c, .slice b.fl.a b4 b.fl.c], .pointer (some ⟨w.heap.size, 0, none⟩), .pointer (some ⟨w.heap.size + 1, 0, none⟩), .pointer (some ⟨w.heap.size + 1 + 1, 0, none⟩), .pointer (some ⟨w.heap.size + 1 + 1 + 1, 0, none⟩), .bool m, .agg #[.slice L.se.a n1 L.se.c, .slice L.po.a n2 L.po.c, .slice L.sg.a n3 L.sg.c, .slice L.rt.a n4 L.rt.c], .agg #[.string a.nm, .int .i64 a.sg, .slice a.pa.a a1 a.pa.c, .slice a.po.a a2 a.po.c, .slice a.ov.a a3 a.ov.c, .slice a.fl.a a4 a.fl.c], .agg #[.string b.nm, .int .i64 b.sg, .slice b.pa.a b1 b.pa.c, .slice b.po.a b2 b.po.c, .slice b.ov.a b3 b.ov.c, .slice b.fl.a b4 b.fl.c], .func (.func 105) #[] #[.pointer (some ⟨w.heap.size + 4 + 1, 0, none⟩), .pointer (some ⟨w.heap.size + 4 + 1 + 1, 0, none⟩), .pointer (some ⟨w.heap.size + 4, 0, none⟩)], .bool m, undef], defers := [] }) ?assign ?body ?done ?stop
  case assign =>
    intro l m W K hK
    gi_wp2
    exact hK
  case body =>
    rintro l0 pre m W ⟨⟨hb, hp⟩, hB⟩ hlen
    have e0 := hb.cell
    have e1 := hb.frozen
    cases m with
    | false =>
      gi_wp2
      exact ⟨(KeepsOthers.refl _).from _, kpA_below (Below.refl _ _), ⟨⟨hb, by simp [hp]⟩, hB⟩⟩
    | true =>
      gi_wp2
      exact ⟨(KeepsOthers.setCell _ _ _).from _, ⟨⟨rfl, by simp⟩, hb.set _⟩, hB.setCell (p := ⟨w.heap.size + 3, 0, none⟩) (by simp) _⟩
  case done =>
    rintro D ys W hD rfl ⟨⟨hb, hp⟩, hB⟩ hK
    have e0 := hb.cell
    have e1 := hb.frozen
    have hne : D ≠ w.heap.size + 3 := by have := HL5.out; omega
    have hK1 : (W.setCell ⟨w.heap.size + 3, 0, none⟩ (.bool false)).heap[D]? = some (.deferred (some [])) := (Below.heap_setCell _ _ _ _ (fun e => hne e)).trans hK
    have hbs := hb.set (.bool false)
    have hfin : ∀ o', ((W.setCell ⟨w.heap.size + 3, 0, none⟩ (.bool false)).putObj D o').cell? ⟨w.heap.size + 3, 0, none⟩ = some (.bool false) := fun o' => (World.cell?_of_block (World.putObj_heap_other (fun e => hne e.symm))).trans hbs.cell
    have HB1 := Lib.hid (hB.setCell (p := ⟨w.heap.size + 3, 0, none⟩) (by simp) (.bool false))
    have HF := Lib.hid (show conflictS L a b = false by rw [cf_any]; exact hp)
    have HD2 := Lib.hid (show w.heap.size ≤ D by have := HL5.out; omega)
    have HK1 := Lib.hid hK1
    have HFIN := Lib.hid hfin
    clear hK1 hfin hbs hne
    gi_wp2
    refine ⟨by simp, .inl ⟨_, _, rfl, run_takeDeferred HK1.out, ?_⟩⟩
    have hc := HFIN.out (.deferred none)
    exact ⟨.bool false, by simp [results, Try.results70, go_sem, hc], by rw [HF.out], HB1.out.trans (belowK_b (w := w) (Nat.le_refl _) _ D _ _ HD2.out HK1.out rfl rfl)⟩
  case stop =>
    rintro D c pre W hD hpre ⟨⟨⟨rfl, hp⟩, hb⟩, hB⟩ hK
    have e0 := hb.cell
    have hne : D ≠ w.heap.size + 3 := by have := HL5.out; omega
    have hfin : ∀ o', (W.putObj D o').cell? ⟨w.heap.size + 3, 0, none⟩ = some (.bool true) := fun o' => (World.cell?_of_block (World.putObj_heap_other (fun e => hne e.symm))).trans hb.cell
    have HF := Lib.hid (show conflictS L a b = true by
      rw [cf_any]
      obtain ⟨t, ht⟩ := hpre
      rw [← ht, List.any_append, hp]
      rfl)
    have HD2 := Lib.hid (show w.heap.size ≤ D by have := HL5.out; omega)
    have HFIN := Lib.hid hfin
    clear hfin hne
    gi_wp2
    refine ⟨by simp, .inl ⟨_, _, rfl, run_takeDeferred hK, ?_⟩⟩
    have hc := HFIN.out (.deferred none)
    exact ⟨.bool true, by simp [results, Try.results70, go_sem, hc], by rw [HF.out], hB.trans (belowK_b (w := w) (Nat.le_refl _) _ D _ _ HD2.out hK rfl rfl)⟩
end Go.Proofs.Ytjienmjpfklgeaa
