/-
 Merged: CoH, CoL, CoMa.
-/
import Derived.Test.YtpohoannggdbjaaCoG
import Derived.Test.YtpohoannggdbjaaMC
import Derived.Test.YtpohoannggdbjaaMA
import Derived.Test.YtpohoannggdbjaaCoC
namespace Go.Proofs.Ytpohoannggdbjaa
open Go.RowKit Go.Shelf
set_option maxRecDepth 100000
attribute [local go_sem] Oper.semAt_some
attribute [local irreducible] hasI ndAt Sl.v ptBad Rt.tr Rt.nd reasonsS conflictS
theorem cf_any (L : Lay) (a b : Rt) : conflictS L a b = (reasonsS L a b).any id := by unfold conflictS; rfl
theorem reasons_any (L : Lay) (a b : Rt) (n1 n2 n3 n4 a1 a2 a3 a4 b1 b2 b3 b4 : Nat) (w : World) :
 Calls Try.prog 55 #[.agg #[.slice L.se.a n1 L.se.c, .slice L.po.a n2 L.po.c, .slice L.sg.a n3 L.sg.c, .slice L.rt.a n4 L.rt.c], .agg #[.string a.nm, .int .i64 a.sg, .slice a.pa.a a1 a.pa.c, .slice a.po.a a2 a.po.c, .slice a.ov.a a3 a.ov.c, .slice a.fl.a a4 a.fl.c], .agg #[.string b.nm, .int .i64 b.sg, .slice b.pa.a b1 b.pa.c, .slice b.po.a b2 b.po.c, .slice b.ov.a b3 b.ov.c, .slice b.fl.a b4 b.fl.c]] w fun e w' => e = .returned (.func (.func 65) #[] #[.pointer (some ⟨w.heap.size + 1, 0, none⟩), .pointer (some ⟨w.heap.size + 1 + 1, 0, none⟩), .pointer (some ⟨w.heap.size, 0, none⟩)]) ∧ w' = ((w.alloc (.cells #[.slice L.se.a n1 L.se.c, .slice L.po.a n2 L.po.c, .slice L.sg.a n3 L.sg.c, .slice L.rt.a n4 L.rt.c] 27)).alloc (.cells #[.string a.nm, .int .i64 a.sg, .slice a.pa.a a1 a.pa.c, .slice a.po.a a2 a.po.c, .slice a.ov.a a3 a.ov.c, .slice a.fl.a a4 a.fl.c] 58)).alloc (.cells #[.string b.nm, .int .i64 b.sg, .slice b.pa.a b1 b.pa.c, .slice b.po.a b2 b.po.c, .slice b.ov.a b3 b.ov.c, .slice b.fl.a b4 b.fl.c] 58) := by
 go_enter Try.func55, Try.ntmps55
 go_wp2_with fail
 go_ret
 exact ⟨rfl, rfl⟩
set_option maxHeartbeats 4000000 in
theorem conflict_is (L : Lay) (a b : Rt) (w : World) (hL : LayAt w L) (ha : RtAt w a) (hb : RtAt w b) (hl2 : L.po.l.length ≤ 100000) (hla : a.pa.l.length + a.ov.l.length ≤ 100000 ∧ a.po.l.length + a.fl.l.length ≤ 100000) (hlb : b.pa.l.length + b.ov.l.length ≤ 100000 ∧ b.po.l.length + b.fl.l.length ≤ 100000) :
 Calls Try.prog 31 #[.agg #[L.se.v, L.po.v, L.sg.v, L.rt.v], .agg #[.string a.nm, .int .i64 a.sg, a.pa.v, a.po.v, a.ov.v, a.fl.v], .agg #[.string b.nm, .int .i64 b.sg, b.pa.v, b.po.v, b.ov.v, b.fl.v]] w fun e w' => e = .returned (.bool (conflictS L a b)) ∧ Below w.heap.size w w' := by
 obtain ⟨n1, hn1⟩ : ∃ n, L.se.l.length = n := ⟨_, rfl⟩
 obtain ⟨n2, hn2⟩ : ∃ n, L.po.l.length = n := ⟨_, rfl⟩
 obtain ⟨n3, hn3⟩ : ∃ n, L.sg.l.length = n := ⟨_, rfl⟩
 obtain ⟨n4, hn4⟩ : ∃ n, L.rt.l.length = n := ⟨_, rfl⟩
 obtain ⟨a1, ha1⟩ : ∃ n, a.pa.l.length = n := ⟨_, rfl⟩
 obtain ⟨a2, ha2⟩ : ∃ n, a.po.l.length = n := ⟨_, rfl⟩
 obtain ⟨a3, ha3⟩ : ∃ n, a.ov.l.length = n := ⟨_, rfl⟩
 obtain ⟨a4, ha4⟩ : ∃ n, a.fl.l.length = n := ⟨_, rfl⟩
 obtain ⟨b1, hb1⟩ : ∃ n, b.pa.l.length = n := ⟨_, rfl⟩
 obtain ⟨b2, hb2⟩ : ∃ n, b.po.l.length = n := ⟨_, rfl⟩
 obtain ⟨b3, hb3⟩ : ∃ n, b.ov.l.length = n := ⟨_, rfl⟩
 obtain ⟨b4, hb4⟩ : ∃ n, b.fl.l.length = n := ⟨_, rfl⟩
 rw [slv hn1, slv hn2, slv hn3, slv hn4, slv ha1, slv ha2, slv ha3, slv ha4, slv hb1, slv hb2, slv hb3, slv hb4]
 rw [ha1, ha2, ha3, ha4] at hla
 rw [hb1, hb2, hb3, hb4] at hlb
 rw [hn2] at hl2
 have HL := Lib.hid hL
 have HRA := Lib.hid ha
 have HRB := Lib.hid hb
 clear hL ha hb
 refine (callsIn_wide (n := 6)).1 ?_
 refine callsIn_of_wp_marks Try.func31 rfl trivial ?_ rfl
 simp only [Try.ntmps31, List.size_toArray, List.length_cons, List.length_nil, Nat.reduceAdd, Nat.reduceSub, Array.replicate_succ, Array.replicate_zero, List.push_toArray, List.append_toArray, List.nil_append, List.cons_append]
 gi_wp2
 refine ⟨trivial, ?_⟩
 refine (callsIn_wide.2 (reasons_any L a b n1 n2 n3 n4 a1 a2 a3 a4 b1 b2 b3 b4 _)).mono ?_
 rintro e w' ⟨rfl, rfl⟩
 obtain ⟨w4, hw4⟩ : ∃ V, V = (((w.alloc (.cells #[.slice L.se.a n1 L.se.c, .slice L.po.a n2 L.po.c, .slice L.sg.a n3 L.sg.c, .slice L.rt.a n4 L.rt.c] 27)).alloc (.cells #[.string a.nm, .int .i64 a.sg, .slice a.pa.a a1 a.pa.c, .slice a.po.a a2 a.po.c, .slice a.ov.a a3 a.ov.c, .slice a.fl.a a4 a.fl.c] 58)).alloc (.cells #[.string b.nm, .int .i64 b.sg, .slice b.pa.a b1 b.pa.c, .slice b.po.a b2 b.po.c, .slice b.ov.a b3 b.ov.c, .slice b.fl.a b4 b.fl.c] 58)).alloc (.cells #[.bool false] 4) := ⟨_, rfl⟩
 have at4 := allocs_at [.cells #[.slice L.se.a n1 L.se.c, .slice L.po.a n2 L.po.c, .slice L.sg.a n3 L.sg.c, .slice L.rt.a n4 L.rt.c] 27, .cells #[.string a.nm, .int .i64 a.sg, .slice a.pa.a a1 a.pa.c, .slice a.po.a a2 a.po.c, .slice a.ov.a a3 a.ov.c, .slice a.fl.a a4 a.fl.c] 58, .cells #[.string b.nm, .int .i64 b.sg, .slice b.pa.a b1 b.pa.c, .slice b.po.a b2 b.po.c, .slice b.ov.a b3 b.ov.c, .slice b.fl.a b4 b.fl.c] 58, .cells #[.bool false] 4] w
 have bl4 := allocs_below [.cells #[.slice L.se.a n1 L.se.c, .slice L.po.a n2 L.po.c, .slice L.sg.a n3 L.sg.c, .slice L.rt.a n4 L.rt.c] 27, .cells #[.string a.nm, .int .i64 a.sg, .slice a.pa.a a1 a.pa.c, .slice a.po.a a2 a.po.c, .slice a.ov.a a3 a.ov.c, .slice a.fl.a a4 a.fl.c] 58, .cells #[.string b.nm, .int .i64 b.sg, .slice b.pa.a b1 b.pa.c, .slice b.po.a b2 b.po.c, .slice b.ov.a b3 b.ov.c, .slice b.fl.a b4 b.fl.c] 58, .cells #[.bool false] 4] w
 rw [show List.foldl World.alloc w [.cells #[.slice L.se.a n1 L.se.c, .slice L.po.a n2 L.po.c, .slice L.sg.a n3 L.sg.c, .slice L.rt.a n4 L.rt.c] 27, .cells #[.string a.nm, .int .i64 a.sg, .slice a.pa.a a1 a.pa.c, .slice a.po.a a2 a.po.c, .slice a.ov.a a3 a.ov.c, .slice a.fl.a a4 a.fl.c] 58, .cells #[.string b.nm, .int .i64 b.sg, .slice b.pa.a b1 b.pa.c, .slice b.po.a b2 b.po.c, .slice b.ov.a b3 b.ov.c, .slice b.fl.a b4 b.fl.c] 58, .cells #[.bool false] 4] = w4 by rw [hw4]; rfl] at at4 bl4
 rw [← hw4]
 have qres := at4 3 _ rfl
 have hs4 : w4.heap.size = w.heap.size + 4 := by rw [hw4]; simp
 obtain ⟨w5, hw5⟩ : ∃ V, V = ((w4.alloc (.cells #[.slice L.se.a n1 L.se.c, .slice L.po.a n2 L.po.c, .slice L.sg.a n3 L.sg.c, .slice L.rt.a n4 L.rt.c] 27)).alloc (.cells #[.string a.nm, .int .i64 a.sg, .slice a.pa.a a1 a.pa.c, .slice a.po.a a2 a.po.c, .slice a.ov.a a3 a.ov.c, .slice a.fl.a a4 a.fl.c] 58)).alloc (.cells #[.string b.nm, .int .i64 b.sg, .slice b.pa.a b1 b.pa.c, .slice b.po.a b2 b.po.c, .slice b.ov.a b3 b.ov.c, .slice b.fl.a b4 b.fl.c] 58) := ⟨_, rfl⟩
 have at5 := allocs_at [.cells #[.slice L.se.a n1 L.se.c, .slice L.po.a n2 L.po.c, .slice L.sg.a n3 L.sg.c, .slice L.rt.a n4 L.rt.c] 27, .cells #[.string a.nm, .int .i64 a.sg, .slice a.pa.a a1 a.pa.c, .slice a.po.a a2 a.po.c, .slice a.ov.a a3 a.ov.c, .slice a.fl.a a4 a.fl.c] 58, .cells #[.string b.nm, .int .i64 b.sg, .slice b.pa.a b1 b.pa.c, .slice b.po.a b2 b.po.c, .slice b.ov.a b3 b.ov.c, .slice b.fl.a b4 b.fl.c] 58] w4
 have bl5 := allocs_below [.cells #[.slice L.se.a n1 L.se.c, .slice L.po.a n2 L.po.c, .slice L.sg.a n3 L.sg.c, .slice L.rt.a n4 L.rt.c] 27, .cells #[.string a.nm, .int .i64 a.sg, .slice a.pa.a a1 a.pa.c, .slice a.po.a a2 a.po.c, .slice a.ov.a a3 a.ov.c, .slice a.fl.a a4 a.fl.c] 58, .cells #[.string b.nm, .int .i64 b.sg, .slice b.pa.a b1 b.pa.c, .slice b.po.a b2 b.po.c, .slice b.ov.a b3 b.ov.c, .slice b.fl.a b4 b.fl.c] 58] w4
 rw [show List.foldl World.alloc w4 [.cells #[.slice L.se.a n1 L.se.c, .slice L.po.a n2 L.po.c, .slice L.sg.a n3 L.sg.c, .slice L.rt.a n4 L.rt.c] 27, .cells #[.string a.nm, .int .i64 a.sg, .slice a.pa.a a1 a.pa.c, .slice a.po.a a2 a.po.c, .slice a.ov.a a3 a.ov.c, .slice a.fl.a a4 a.fl.c] 58, .cells #[.string b.nm, .int .i64 b.sg, .slice b.pa.a b1 b.pa.c, .slice b.po.a b2 b.po.c, .slice b.ov.a b3 b.ov.c, .slice b.fl.a b4 b.fl.c] 58] = w5 by rw [hw5]; rfl] at at5 bl5
 rw [← hw5]
 have q0 := at5 0 _ rfl
 have q1 := at5 1 _ rfl
 have q2 := at5 2 _ rfl
 rw [Nat.add_zero] at q0
 have hbw := below_on bl4 bl5
 have qres := blk_keep bl5 qres
 have hs5 : w5.heap.size = w4.heap.size + 3 := by rw [hw5]; simp
 clear at4 at5 hw4 hw5
 rw [hs4] at q0 q1 q2
 have hRe : ReAt w5 (w.heap.size + 4 + 1) (w.heap.size + 4 + 1 + 1) (w.heap.size + 4) L a b n2 (.slice L.se.a n1 L.se.c) (.slice L.sg.a n3 L.sg.c) (.slice L.rt.a n4 L.rt.c) #[.string a.nm, .int .i64 a.sg, .slice a.pa.a a1 a.pa.c, .slice a.po.a a2 a.po.c, .slice a.ov.a a3 a.ov.c, .slice a.fl.a a4 a.fl.c] #[.string b.nm, .int .i64 b.sg, .slice b.pa.a b1 b.pa.c, .slice b.po.a b2 b.po.c, .slice b.ov.a b3 b.ov.c, .slice b.fl.a b4 b.fl.c] := ⟨q1, q2, q0, HL.out.po.row.below hbw, HRA.out.below hbw, HRB.out.below hbw⟩
 have hlt5 : w.heap.size + 3 < w5.heap.size := blk_lt qres
 have HRE := Lib.hid hRe
 have HB5 := Lib.hid hbw
 have HQR := Lib.hid qres
 have HS5 := Lib.hid (show w.heap.size ≤ w5.heap.size from hbw.size)
 have HL5 := Lib.hid hlt5
 clear q0 q1 q2 hRe hbw qres bl4 bl5 hs5 hlt5
 gi_wp2
 refine wpIn_rangeFunc_ownG rfl (by omega) (gf := 65) (lb := #[.pointer (some ⟨w.heap.size + 4 + 1, 0, none⟩), .pointer (some ⟨w.heap.size + 4 + 1 + 1, 0, none⟩), .pointer (some ⟨w.heap.size + 4, 0, none⟩)]) rfl trivial (enters_of Try.func65 (by kernel_rfl) rfl)
  (reasons_stops 5 (by omega) _ _ _ L a b n2 _ _ _ a1 a2 a3 a4 b1 b2 b3 b4 w5 HRE.out hn2 hl2 ha1 ha2 ha3 ha4 hb1 hb2 hb3 hb4 ⟨hla.1, hla.2⟩ ⟨hlb.1, hlb.2⟩) (fun h k => h.t k) (fun W l o o' _ hl ho hw => kpA_b W l o o' hl ho hw) (Below.refl _ _) (fun _ => rfl)
  (fun (pre : List Bool) W => (Boxed W (w.heap.size + 3) 4 (.bool false) ∧ pre.any id = false) ∧ Below w.heap.size w W)
  (fun c pre W => ((c = Code.ret ∧ pre.any id = true) ∧ Boxed W (w.heap.size + 3) 4 (.bool true)) ∧ Below w.heap.size w W)
  (OwnFrom.and (OwnFrom.and (Own.from (boxed_own _ _ (fun (_ : List Bool) => Value.bool false)) _) (fun _ _ _ _ hs _ _ => hs)) (ownFrom_below (Nat.le_refl _) HS5.out))
  (fun c => OwnFrom.and (OwnFrom.and (fun _ _ _ _ hs _ _ => hs) (Own.from (boxed_own _ _ (fun (_ : List Bool) => Value.bool true)) _)) (ownFrom_below (Nat.le_refl _) HS5.out))
  ⟨⟨HQR.out, rfl⟩, HB5.out⟩
  (fun m => { tmps := #[.agg #[.slice L.se.a n1 L.se.c, .slice L.po.a n2 L.po.c, .slice L.sg.a n3 L.sg.c, .slice L.rt.a n4 L.rt.c], .agg #[.string a.nm, .int .i64 a.sg, .slice a.pa.a a1 a.pa.c, .slice a.po.a a2 a.po.c, .slice a.ov.a a3 a.ov.c, .slice a.fl.a a4 a.fl.c], .agg #[.string b.nm, .int .i64 b.sg, .slice b.pa.a b1 b.pa.c, .slice b.po.a b2 b.po.c, .slice b.ov.a b3 b.ov.c, .slice b.fl.a b4 b.fl.c], .pointer (some ⟨w.heap.size, 0, none⟩), .pointer (some ⟨w.heap.size + 1, 0, none⟩), .pointer (some ⟨w.heap.size + 1 + 1, 0, none⟩), .pointer (some ⟨w.heap.size + 1 + 1 + 1, 0, none⟩), .bool m, .agg #[.slice L.se.a n1 L.se.c, .slice L.po.a n2 L.po.c, .slice L.sg.a n3 L.sg.c, .slice L.rt.a n4 L.rt.c], .agg #[.string a.nm, .int .i64 a.sg, .slice a.pa.a a1 a.pa.c, .slice a.po.a a2 a.po.c, .slice a.ov.a a3 a.ov.c, .slice a.fl.a a4 a.fl.c], .agg #[.string b.nm, .int .i64 b.sg, .slice b.pa.a b1 b.pa.c, .slice b.po.a b2 b.po.c, .slice b.ov.a b3 b.ov.c, .slice b.fl.a b4 b.fl.c], .func (.func 65) #[] #[.pointer (some ⟨w.heap.size + 4 + 1, 0, none⟩), .pointer (some ⟨w.heap.size + 4 + 1 + 1, 0, none⟩), .pointer (some ⟨w.heap.size + 4, 0, none⟩)], .bool m, undef], defers := [] }) ?assign ?body ?done ?stop
 case assign =>
  intro l m W K hK
  gi_wp2
  exact hK
 case body =>
  rintro l0 pre m W ⟨⟨hb, hp⟩, hB⟩ hlen
  have e0 := hb.cell
  have e1 := hb.frozen
  cases m with
  | false =>
    gi_wp2
    exact ⟨(KeepsOthers.refl _).from _, kpA_below (Below.refl _ _), ⟨⟨hb, by simp [hp]⟩, hB⟩⟩
  | true =>
    gi_wp2
    exact ⟨(KeepsOthers.setCell _ _ _).from _, ⟨⟨rfl, by simp⟩, hb.set _⟩, hB.setCell (p := ⟨w.heap.size + 3, 0, none⟩) (by simp) _⟩
 case done =>
  rintro D ys W hD rfl ⟨⟨hb, hp⟩, hB⟩ hK
  have e0 := hb.cell
  have e1 := hb.frozen
  have hne : D ≠ w.heap.size + 3 := by have := HL5.out; omega
  have hK1 : (W.setCell ⟨w.heap.size + 3, 0, none⟩ (.bool false)).heap[D]? = some (.deferred (some [])) := (Below.heap_setCell _ _ _ _ (fun e => hne e)).trans hK
  have hbs := hb.set (.bool false)
  have hfin : ∀ o', ((W.setCell ⟨w.heap.size + 3, 0, none⟩ (.bool false)).putObj D o').cell? ⟨w.heap.size + 3, 0, none⟩ = some (.bool false) := fun o' => (World.cell?_of_block (World.putObj_heap_other (fun e => hne e.symm))).trans hbs.cell
  have HB1 := Lib.hid (hB.setCell (p := ⟨w.heap.size + 3, 0, none⟩) (by simp) (.bool false))
  have HF := Lib.hid (show conflictS L a b = false by rw [cf_any]; exact hp)
  have HD2 := Lib.hid (show w.heap.size ≤ D by have := HL5.out; omega)
  have HK1 := Lib.hid hK1
  have HFIN := Lib.hid hfin
  clear hK1 hfin hbs hne
  gi_wp2
  refine ⟨by simp, .inl ⟨_, _, rfl, run_takeDeferred HK1.out, ?_⟩⟩
  have hc := HFIN.out (.deferred none)
  exact ⟨.bool false, by simp [results, Try.results31, go_sem, hc], by rw [HF.out], HB1.out.trans (belowK_b (w := w) (Nat.le_refl _) _ D _ _ HD2.out HK1.out rfl rfl)⟩
 case stop =>
  rintro D c pre W hD hpre ⟨⟨⟨rfl, hp⟩, hb⟩, hB⟩ hK
  have e0 := hb.cell
  have hne : D ≠ w.heap.size + 3 := by have := HL5.out; omega
  have hfin : ∀ o', (W.putObj D o').cell? ⟨w.heap.size + 3, 0, none⟩ = some (.bool true) := fun o' => (World.cell?_of_block (World.putObj_heap_other (fun e => hne e.symm))).trans hb.cell
  have HF := Lib.hid (show conflictS L a b = true by
   rw [cf_any]
   obtain ⟨t, ht⟩ := hpre
   rw [← ht, List.any_append, hp]
   rfl)
  have HD2 := Lib.hid (show w.heap.size ≤ D by have := HL5.out; omega)
  have HFIN := Lib.hid hfin
  clear hfin hne
  gi_wp2
  refine ⟨by simp, .inl ⟨_, _, rfl, run_takeDeferred hK, ?_⟩⟩
  have hc := HFIN.out (.deferred none)
  exact ⟨.bool true, by simp [results, Try.results31, go_sem, hc], by rw [HF.out], hB.trans (belowK_b (w := w) (Nat.le_refl _) _ D _ _ HD2.out hK rfl rfl)⟩
end Go.Proofs.Ytpohoannggdbjaa
namespace Go.Proofs.Ytpohoannggdbjaa
open Go.RowKit

/-- the numbers below n of which f is true, as a set -/
def bitsOf (f : Nat → Bool) : Nat → Nat
 | 0 => 0
 | n + 1 => if f n then withBit (bitsOf f n) n else bitsOf f n
theorem withBit_test (s n i : Nat) : hasBit (withBit s n) i = (hasBit s i || decide (n = i)) := by
 rw [hasBit_test, hasBit_test, withBit_or, Nat.testBit_or, pw, Nat.testBit_two_pow]
theorem bitsOf_test (f : Nat → Bool) (n i : Nat) : hasBit (bitsOf f n) i = (decide (i < n) && f i) := by
 induction n with
 | zero =>
   rw [hasBit_test]
   show (0 : Nat).testBit i = _
   simp
 | succ n ih =>
   have e : bitsOf f (n + 1) = if f n then withBit (bitsOf f n) n else bitsOf f n := rfl
   rw [e]
   by_cases hi : i = n
   ·subst hi
    cases h : f i with
    | true => rw [if_pos rfl, withBit_test]; simp
    | false => rw [if_neg (by decide), ih]; simp
   ·have h1 : decide (i < n + 1) = decide (i < n) := by rw [decide_eq_decide]; omega
    rw [h1]
    cases h : f n with
    | true => rw [if_pos rfl, withBit_test, ih, decide_eq_false (fun e : n = i => hi e.symm), Bool.or_false]
    | false => rw [if_neg (by decide), ih]
theorem bits_ext {a b : Nat} (h : ∀ i, hasBit a i = hasBit b i) : a = b := Nat.eq_of_testBit_eq (fun i => by rw [← hasBit_test, ← hasBit_test]; exact h i)
theorem bitsOf_lt (f : Nat → Bool) : ∀ n, n ≤ 64 → bitsOf f n < 18446744073709551616 := by
 intro n
 induction n with
 | zero => intro _; exact (by decide : (0 : Nat) < 18446744073709551616)
 | succ n ih =>
   intro h
   have e : bitsOf f (n + 1) = if f n then withBit (bitsOf f n) n else bitsOf f n := rfl
   rw [e]
   split
   ·exact withBit_lt _ _ (by omega) (ih (by omega))
   ·exact ih (by omega)
theorem bitsOf_lt2 (f : Nat → Bool) : ∀ n, bitsOf f n < 2 ^ n := by
 intro n
 apply Nat.lt_of_not_le
 intro h
 obtain ⟨i, hi, ht⟩ : ∃ i, n ≤ i ∧ (bitsOf f n).testBit i = true := Nat.exists_ge_and_testBit_of_ge_two_pow h
 rw [← hasBit_test, bitsOf_test, decide_eq_false (by omega)] at ht
 cases ht
/-- do the routes of two numbers conflict? -/
def cfS (L : Lay) (i k : Nat) : Bool := match L.rt.l[i]?, L.rt.l[k]? with | some x, some y => conflictS L x y | _, _ => false
theorem cfS_at {L : Lay} {i k : Nat} {x y : Rt} (hi : L.rt.l[i]? = some x) (hk : L.rt.l[k]? = some y) : cfS L i k = conflictS L x y := by unfold cfS; rw [hi, hk]
theorem cfS_comm (L : Lay) (i k : Nat) : cfS L i k = cfS L k i := by
 unfold cfS
 rcases L.rt.l[i]? with _ | x <;> rcases L.rt.l[k]? with _ | y <;> first | rfl | exact conflict_comm L x y
/-- the row of number i, when n routes are there -/
def rowS (L : Lay) (i : Nat) : Nat := bitsOf (fun m => decide (i ≠ m) && cfS L i m) L.rt.l.length
def tabS (L : Lay) : List Nat := (List.range L.rt.l.length).map (rowS L)
theorem tabS_len (L : Lay) : (tabS L).length = L.rt.l.length := by simp [tabS]
theorem tabS_get {L : Lay} {i : Nat} (h : i < L.rt.l.length) : (tabS L)[i]? = some (rowS L i) := by simp [tabS, h]
theorem rowS_lt {L : Lay} (h : L.rt.l.length ≤ 64) (i : Nat) : rowS L i < 18446744073709551616 := bitsOf_lt _ _ h
theorem rowS_test (L : Lay) (i k : Nat) : hasBit (rowS L i) k = (decide (k < L.rt.l.length) && (decide (i ≠ k) && cfS L i k)) := bitsOf_test _ _ _
/-- has a pair been looked at, at inner turn k of turn i? -/
def seenB (i k j m : Nat) : Bool := decide ((j < i ∧ m < i ∧ j ≠ m) ∨ (j = i ∧ m < k) ∨ (m = i ∧ j < k))
/-- what row j is then -/
def growS (L : Lay) (i k j : Nat) : Nat := bitsOf (fun m => seenB i k j m && cfS L j m) L.rt.l.length
theorem growS_lt {L : Lay} (h : L.rt.l.length ≤ 64) (i k j : Nat) : growS L i k j < 18446744073709551616 := bitsOf_lt _ _ h
theorem growS_start (L : Lay) (j : Nat) : growS L 0 0 j = 0 := by
 apply bits_ext
 intro m
 unfold growS
 rw [bitsOf_test]
 have : seenB 0 0 j m = false := by unfold seenB; exact decide_eq_false (by omega)
 rw [this, hasBit_test]
 simp
theorem growS_turn (L : Lay) (i j : Nat) : growS L i i j = growS L (i + 1) 0 j := by
 apply bits_ext
 intro m
 unfold growS
 rw [bitsOf_test, bitsOf_test]
 have : seenB i i j m = seenB (i + 1) 0 j m := by unfold seenB; rw [decide_eq_decide]; omega
 rw [this]
theorem growS_end (L : Lay) (j : Nat) (hj : j < L.rt.l.length) : growS L L.rt.l.length 0 j = rowS L j := by
 apply bits_ext
 intro m
 rw [rowS_test]
 unfold growS
 rw [bitsOf_test]
 by_cases hm : m < L.rt.l.length
 ·have : seenB L.rt.l.length 0 j m = decide (j ≠ m) := by unfold seenB; rw [decide_eq_decide]; omega
  rw [this]
 ·rw [decide_eq_false hm]; rfl
theorem growS_no {L : Lay} {i k : Nat} (hk : k < i) (h : cfS L i k = false) (j : Nat) : growS L i (k + 1) j = growS L i k j := by
 apply bits_ext
 intro m
 unfold growS
 rw [bitsOf_test, bitsOf_test]
 congr 1
 by_cases h1 : j = i ∧ m = k
 ·rw [h1.1, h1.2, h, Bool.and_false, Bool.and_false]
 ·by_cases h2 : m = i ∧ j = k
  ·rw [h2.1, h2.2, cfS_comm, h, Bool.and_false, Bool.and_false]
  ·have : seenB i (k + 1) j m = seenB i k j m := by unfold seenB; rw [decide_eq_decide]; omega
   rw [this]
theorem growS_same {L : Lay} {i k j : Nat} (h1 : j ≠ i) (h2 : j ≠ k) : growS L i (k + 1) j = growS L i k j := by
 apply bits_ext
 intro m
 unfold growS
 rw [bitsOf_test, bitsOf_test]
 have : seenB i (k + 1) j m = seenB i k j m := by unfold seenB; rw [decide_eq_decide]; omega
 rw [this]
theorem growS_i {L : Lay} {i k : Nat} (hk : k < i) (hi : i < L.rt.l.length) (h : cfS L i k = true) : withBit (growS L i k i) k = growS L i (k + 1) i := by
 apply bits_ext
 intro m
 rw [withBit_test]
 unfold growS
 rw [bitsOf_test, bitsOf_test]
 by_cases hm : k = m
 ·subst hm
  have : seenB i (k + 1) i k = true := by unfold seenB; exact decide_eq_true (by omega)
  rw [this, h, decide_eq_true (show k < L.rt.l.length by omega)]
  simp
 ·have : seenB i (k + 1) i m = seenB i k i m := by unfold seenB; rw [decide_eq_decide]; omega
  rw [this, decide_eq_false (p := _ = m) hm, Bool.or_false]
theorem growS_k {L : Lay} {i k : Nat} (hk : k < i) (hi : i < L.rt.l.length) (h : cfS L i k = true) : withBit (growS L i k k) i = growS L i (k + 1) k := by
 apply bits_ext
 intro m
 rw [withBit_test]
 unfold growS
 rw [bitsOf_test, bitsOf_test]
 by_cases hm : i = m
 ·subst hm
  have : seenB i (k + 1) k i = true := by unfold seenB; exact decide_eq_true (by omega)
  rw [this, cfS_comm, h, decide_eq_true hi]
  simp
 ·have : seenB i (k + 1) k m = seenB i k k m := by unfold seenB; rw [decide_eq_decide]; omega
  rw [this, decide_eq_false (p := _ = m) hm, Bool.or_false]
/-- the document's row, as far as number k -/
def rrowS (L : Lay) (i k : Nat) : Nat := bitsOf (fun m => decide (i ≠ m) && cfS L i m) k
theorem rrowS_zero (L : Lay) (i : Nat) : rrowS L i 0 = 0 := rfl
theorem rrowS_end (L : Lay) (i : Nat) : rrowS L i L.rt.l.length = rowS L i := rfl
theorem rrowS_yes {L : Lay} {i k : Nat} (h1 : i ≠ k) (h2 : cfS L i k = true) : rrowS L i (k + 1) = withBit (rrowS L i k) k := by
 unfold rrowS
 have e : bitsOf (fun m => decide (i ≠ m) && cfS L i m) (k + 1) = if (decide (i ≠ k) && cfS L i k) then withBit (bitsOf (fun m => decide (i ≠ m) && cfS L i m) k) k else bitsOf (fun m => decide (i ≠ m) && cfS L i m) k := rfl
 rw [e, decide_eq_true h1, h2]; rfl
theorem rrowS_no {L : Lay} {i k : Nat} (h : i = k ∨ cfS L i k = false) : rrowS L i (k + 1) = rrowS L i k := by
 unfold rrowS
 have e : bitsOf (fun m => decide (i ≠ m) && cfS L i m) (k + 1) = if (decide (i ≠ k) && cfS L i k) then withBit (bitsOf (fun m => decide (i ≠ m) && cfS L i m) k) k else bitsOf (fun m => decide (i ≠ m) && cfS L i m) k := rfl
 have h0 : (decide (i ≠ k) && cfS L i k) = false := by
  rcases h with h | h
  ·rw [decide_eq_false (fun e => e h)]; rfl
  ·rw [h, Bool.and_false]
 rw [e, h0]; rfl
theorem rrowS_lt (L : Lay) (i : Nat) {k : Nat} (h : k ≤ 64) : rrowS L i k < 18446744073709551616 := bitsOf_lt _ _ h
/-- all that conflict with route n, below number k -/
def ofS (L : Lay) (n k : Nat) : List Nat := (List.range k).filter (fun m => decide (m ≠ n) && cfS L n m)
theorem ofS_zero (L : Lay) (n : Nat) : ofS L n 0 = [] := rfl
theorem ofS_yes {L : Lay} {n k : Nat} (h1 : k ≠ n) (h2 : cfS L n k = true) : ofS L n (k + 1) = ofS L n k ++ [k] := by
 unfold ofS
 rw [List.range_succ, List.filter_append]
 simp [h1, h2]
theorem ofS_no {L : Lay} {n k : Nat} (h : k = n ∨ cfS L n k = false) : ofS L n (k + 1) = ofS L n k := by
 unfold ofS
 rw [List.range_succ, List.filter_append]
 rcases h with h | h <;> simp [h]
theorem ofS_len (L : Lay) (n k : Nat) : (ofS L n k).length ≤ k := by
 unfold ofS
 exact Nat.le_trans (List.length_filter_le _ _) (by simp)
theorem ofS_small {L : Lay} {n k : Nat} : ∀ m ∈ ofS L n k, m < k := by
 intro m hm
 unfold ofS at hm
 simpa using (List.mem_filter.1 hm).1
end Go.Proofs.Ytpohoannggdbjaa
namespace Go.Proofs.Ytpohoannggdbjaa
open Go.RowKit
set_option maxRecDepth 100000
theorem or_step {s n : Nat} (hn : n ≤ 63) (hs : s < 18446744073709551616) : IntKind.u64.wrap ((2 : Int) ^ n) = (pw n : Int) ∧ bits .or .u64 (s : Int) (pw n : Int) = ((withBit s n : Nat) : Int) := ⟨one_form n hn, or_form s n hn hs⟩
theorem wsucc {k n : Nat} (h : k < n) (hn : n ≤ 64) : wrap64 ((k : Int) + 1) = (k : Int) + 1 := by unfold wrap64; omega
theorem cs_zero {L : Lay} (h : (checkS L).1 = 0) : mayS L = true := by
 cases hm : mayS L with
 | true => rfl
 | false => rw [cs_no hm] at h; cases h
theorem conflict_may (L : Lay) (x y : Rt) (W : World) (hmay : mayS L = true) (hL : LayAt W L) (hx : x ∈ L.rt.l) (hy : y ∈ L.rt.l) :
 Calls Try.prog 31 #[.agg #[L.se.v, L.po.v, L.sg.v, L.rt.v], .agg #[.string x.nm, .int .i64 x.sg, x.pa.v, x.po.v, x.ov.v, x.fl.v], .agg #[.string y.nm, .int .i64 y.sg, y.pa.v, y.po.v, y.ov.v, y.fl.v]] W fun e w' => e = .returned (.bool (conflictS L x y)) ∧ Below W.heap.size W w' := by
 have ox := mayS_rt hmay x hx
 have oy := mayS_rt hmay y hy
 have hx1 : x.pa.l.length + x.ov.l.length ≤ 100000 := by have := ox.pa; have := ox.ov; omega
 have hx2 : x.po.l.length + x.fl.l.length ≤ 100000 := by have := ox.po; have := ox.fl; omega
 have hy1 : y.pa.l.length + y.ov.l.length ≤ 100000 := by have := oy.pa; have := oy.ov; omega
 have hy2 : y.po.l.length + y.fl.l.length ≤ 100000 := by have := oy.po; have := oy.fl; omega
 exact conflict_is L x y W hL (hL.rn x hx) (hL.rn y hy) (by have := mayS_small hmay; omega) ⟨hx1, hx2⟩ ⟨hy1, hy2⟩
theorem grown_keep {A B : World} {row : Option Nat} {k : Nat} {o : Obj} (h : A.grownBy B row) (hk : A.heap[k]? = some o) (hne : row ≠ some k) : B.heap[k]? = some o := (h.block k (blk_lt hk) (fun e => hne e.symm)).trans hk
end Go.Proofs.Ytpohoannggdbjaa
