/-
  The statement TopoParts: the walk.
-/
import Derived.Test.YtdkcpejlojdijaaTpD
import Derived.Deep.RegionHeld3
namespace Go.Proofs.Ytdkcpejlojdijaa
open Go.RowKit

/-- a row of n elements in a block of its own, from block lo on and below block hi; what it holds is not said -/
def MineIn (sz lo hi : Nat) (w : World) (a : Option Addr) (n : Nat) : Prop := n = 0 ∨ ∃ g cs t, a = some ⟨g, 0, none⟩ ∧ lo ≤ g ∧ g < hi ∧ w.heap[g]? = some (.cells cs t (0, 0)) ∧ n * sz ≤ cs.size
theorem mine_in {sz base : Nat} {w : World} {a : Option Addr} {n : Nat} (h : NewRow sz base w a n) : MineIn sz base w.heap.size w a n := by
  refine h.imp id ?_
  rintro ⟨g, cs, t, h1, h2, h3, h4⟩
  exact ⟨g, cs, t, h1, h2, blk_lt h3, h3, h4⟩
theorem MineIn.below {sz lo hi : Nat} {w w' : World} {a : Option Addr} {n : Nat} (h : MineIn sz lo hi w a n) (hb : Below w.heap.size w w') : MineIn sz lo hi w' a n := by
  refine h.imp id ?_
  rintro ⟨g, cs, t, h1, h2, h2', h3, h4⟩
  exact ⟨g, cs, t, h1, h2, h2', blk_keep hb h3, h4⟩
theorem MineIn.only {sz lo hi k : Nat} {w w' : World} {a : Option Addr} {n : Nat} (h : MineIn sz lo hi w a n) (ho : Only k w w') (hk : k < lo ∨ hi ≤ k) : MineIn sz lo hi w' a n := by
  refine h.imp id ?_
  rintro ⟨g, cs, t, h1, h2, h2', h3, h4⟩
  exact ⟨g, cs, t, h1, h2, h2', ho.keep (by omega) h3, h4⟩
theorem MineIn.set {sz lo hi g : Nat} {w : World} {n : Nat} (h : MineIn sz lo hi w (some ⟨g, 0, none⟩) n) (i : Nat) (v : Value) : MineIn sz lo hi (w.setCell ⟨g, i, none⟩ v) (some ⟨g, 0, none⟩) n := by
  refine h.imp id ?_
  rintro ⟨g', cs, t, h1, h2, h2', h3, h4⟩
  obtain rfl : g = g' := by injection h1 with h1; injection h1
  exact ⟨g, cs.setIfInBounds i v, t, rfl, h2, h2', blk_set h3 i v, by rw [Array.size_setIfInBounds]; exact h4⟩
/-- a row, of which the block is known -/
structure RowIn {α : Type} (sz : Nat) (f : α → List Value) (lo hi : Nat) (w : World) (s : Sl α) : Prop where
  sl : SlAt sz f w s
  mine : MineIn sz lo hi w s.a s.l.length
theorem RowIn.below {α : Type} {sz : Nat} {f : α → List Value} {lo hi : Nat} {w w' : World} {s : Sl α} (h : RowIn sz f lo hi w s) (hb : Below w.heap.size w w') : RowIn sz f lo hi w' s := ⟨h.sl.below hb, h.mine.below hb⟩
theorem RowIn.only {α : Type} {sz : Nat} {f : α → List Value} {lo hi k : Nat} {w w' : World} {s : Sl α} (h : RowIn sz f lo hi w s) (ho : Only k w w') (hk : k < lo ∨ hi ≤ k) : RowIn sz f lo hi w' s := by
  refine ⟨⟨?_, h.sl.len, h.sl.cap, h.sl.capNil⟩, h.mine.only ho hk⟩
  rcases h.mine with h0 | ⟨g, cs, t, h1, h2, h3, h4, h5⟩
  · exact .inl (List.eq_nil_of_length_eq_zero h0)
  · rcases h.sl.row with hl | ⟨b, off, hb, hc⟩
    · exact .inl hl
    · rw [h1] at hb
      injection hb with hb
      injection hb with hb hoff
      subst hb
      subst hoff
      refine .inr ⟨g, 0, h1, fun i c hi j v hv => ?_⟩
      rw [World.cell?_of_block (w := w) (a := ⟨g, 0 + i * sz + j, none⟩) (ho.block g (blk_lt h4) (by omega))]
      exact hc i c hi j v hv
theorem below_undrew {w w' : World} (h : Below w.drew.heap.size w.drew w') : Below w.heap.size w w' := ⟨h.os, h.tape, h.output, h.size, h.block⟩
/-- what lies in memory when the two rows are written -/
structure PaAt (w wr : World) (gb s1 s2 s3 s4 s5 : Nat) (RV : Array Value) (ta na : Option Addr) (mt mn : Nat) (X : Sl Int) (Y : Sl (Int × Bool)) : Prop where
  box : wr.heap[gb]? = some (.cells RV 25)
  o0 : w.heap.size ≤ gb
  o1 : gb < s1
  o12 : s1 ≤ s2
  o23 : s2 ≤ s3
  o34 : s3 ≤ s4
  o45 : s4 ≤ s5
  t : MineIn 1 s1 s2 wr ta mt
  n : MineIn 2 s2 s3 wr na mn
  x : RowIn 1 intC s3 s4 wr X
  y : RowIn 2 ndC s4 s5 wr Y
  below : Below w.heap.size w wr
theorem PaAt.step {w wr w' : World} {gb s1 s2 s3 s4 s5 : Nat} {RV : Array Value} {ta na : Option Addr} {mt mn : Nat} {X : Sl Int} {Y : Sl (Int × Bool)} (h : PaAt w wr gb s1 s2 s3 s4 s5 RV ta na mt mn X Y) (hb : Below wr.heap.size wr w') : PaAt w w' gb s1 s2 s3 s4 s5 RV ta na mt mn X Y :=
  ⟨blk_keep hb h.box, h.o0, h.o1, h.o12, h.o23, h.o34, h.o45, h.t.below hb, h.n.below hb, h.x.below hb, h.y.below hb, below_on h.below hb⟩
theorem PaAt.setT {w wr : World} {gb s1 s2 s3 s4 s5 : Nat} {RV : Array Value} {na : Option Addr} {mt mn g : Nat} {X : Sl Int} {Y : Sl (Int × Bool)} (h : PaAt w wr gb s1 s2 s3 s4 s5 RV (some ⟨g, 0, none⟩) na mt mn X Y) (h1 : s1 ≤ g) (h2 : g < s2) (i : Nat) (v : Value) : PaAt w (wr.setCell ⟨g, i, none⟩ v) gb s1 s2 s3 s4 s5 RV (some ⟨g, 0, none⟩) na mt mn X Y := by
  have ho : Only g wr (wr.setCell ⟨g, i, none⟩ v) := (Only.refl g wr).setCell rfl v
  obtain ⟨a1, a2, a3, a4, a5, a6, a7, a8, a9, b1, b2, b3⟩ := h
  exact ⟨ho.keep (by omega) a1, a2, a3, a4, a5, a6, a7, a8.set i v, a9.only ho (by omega), b1.only ho (by omega), b2.only ho (by omega), Only.below b3 (by omega) b3.size ho⟩
theorem PaAt.setN {w wr : World} {gb s1 s2 s3 s4 s5 : Nat} {RV : Array Value} {ta : Option Addr} {mt mn g : Nat} {X : Sl Int} {Y : Sl (Int × Bool)} (h : PaAt w wr gb s1 s2 s3 s4 s5 RV ta (some ⟨g, 0, none⟩) mt mn X Y) (h1 : s2 ≤ g) (h2 : g < s3) (i : Nat) (v : Value) : PaAt w (wr.setCell ⟨g, i, none⟩ v) gb s1 s2 s3 s4 s5 RV ta (some ⟨g, 0, none⟩) mt mn X Y := by
  have ho : Only g wr (wr.setCell ⟨g, i, none⟩ v) := (Only.refl g wr).setCell rfl v
  obtain ⟨a1, a2, a3, a4, a5, a6, a7, a8, a9, b1, b2, b3⟩ := h
  exact ⟨ho.keep (by omega) a1, a2, a3, a4, a5, a6, a7, a8.only ho (by omega), a9.set i v, b1.only ho (by omega), b2.only ho (by omega), Only.below b3 (by omega) b3.size ho⟩
theorem sameints_to (x1 : Option Addr) (m1 c1 : Nat) (l : List Int) (x2 : Option Addr) (m2 c2 : Nat) (w : World) (hn1 : l.length = m1) (hn2 : l.length = m2) (hm : m1 ≤ 9223372036854775807) (hr1 : RowAt 1 intC w x1 l) (hr2 : RowAt 1 intC w x2 l) :
    Calls Try.prog 13 #[.slice x1 m1 c1, .slice x2 m2 c2] w fun e w' => e = .returned (.bool true) ∧ Below w.heap.size w w' := (sameints_is x1 m1 c1 l x2 m2 c2 l w hn1 hn2 hm hr1 hr2).mono (fun _ _ h => ⟨by rw [h.1, decide_eq_true rfl], h.2⟩)
theorem sameneeds_to (x1 : Option Addr) (m1 c1 : Nat) (l : List (Int × Bool)) (x2 : Option Addr) (m2 c2 : Nat) (w : World) (hn1 : l.length = m1) (hn2 : l.length = m2) (hm : m1 ≤ 9223372036854775807) (hr1 : RowAt 2 ndC w x1 l) (hr2 : RowAt 2 ndC w x2 l) :
    Calls Try.prog 14 #[.slice x1 m1 c1, .slice x2 m2 c2] w fun e w' => e = .returned (.bool true) ∧ Below w.heap.size w w' := (sameneeds_is x1 m1 c1 l x2 m2 c2 l w hn1 hn2 hm hr1 hr2).mono (fun _ _ h => ⟨by rw [h.1, decide_eq_true rfl], h.2⟩)
attribute [local irreducible] Sl.v

set_option maxRecDepth 100000 in
set_option maxHeartbeats 8000000 in
theorem topoParts_is (r : Rt) (w : World) (hr : RtAt w r) : Calls Try.prog 3 #[.agg #[.string r.nm, .int .i64 r.sg, r.pa.v, r.po.v, r.ov.v, r.fl.v]] w fun e w' => e = .returned (.bool true) ∧ Below w.heap.size w w' := by
  have HR := Lib.hid hr
  have MT : Hid (∀ W, Below w.heap.size w W → r.pa.l.length + r.ov.l.length ≤ 100000 → Calls Try.prog 9 #[.agg #[.string r.nm, .int .i64 r.sg, r.pa.v, r.po.v, r.ov.v, r.fl.v]] W fun e w' => ∃ a n c, e = .returned (.slice a n c) ∧ n = r.pa.l.length + r.ov.l.length ∧ SlAt 1 intC w' ⟨a, c, r.pa.l ++ r.ov.l⟩ ∧ Below W.heap.size W w' ∧ NewRow 1 W.heap.size w' a n) := Lib.hid (fun W hW hle => track_own r W (hr.below hW) hle)
  have MU : Hid (∀ W, Below w.heap.size w W → r.pa.l.length + r.ov.l.length ≤ 100000 → Calls Try.prog 11 #[.agg #[.string r.nm, .int .i64 r.sg, r.pa.v, r.po.v, r.ov.v, r.fl.v]] W fun e w' => ∃ a n c, e = .returned (.slice a n c) ∧ n = r.pa.l.length + r.ov.l.length ∧ SlAt 1 intC w' ⟨a, c, r.pa.l ++ r.ov.l⟩ ∧ Below W.heap.size W w' ∧ NewRow 1 W.heap.size w' a n) := Lib.hid (fun W hW hle => rtrack_own r W (hr.below hW) hle)
  have MN : Hid (∀ W, Below w.heap.size w W → r.po.l.length + r.fl.l.length ≤ 100000 → Calls Try.prog 10 #[.agg #[.string r.nm, .int .i64 r.sg, r.pa.v, r.po.v, r.ov.v, r.fl.v]] W fun e w' => ∃ a n c, e = .returned (.slice a n c) ∧ n = r.po.l.length + r.fl.l.length ∧ SlAt 2 ndC w' ⟨a, c, r.po.l ++ r.fl.l⟩ ∧ Below W.heap.size W w' ∧ NewRow 2 W.heap.size w' a n) := Lib.hid (fun W hW hle => needs_own r W (hr.below hW) hle)
  have MO : Hid (∀ W, Below w.heap.size w W → r.po.l.length + r.fl.l.length ≤ 100000 → Calls Try.prog 12 #[.agg #[.string r.nm, .int .i64 r.sg, r.pa.v, r.po.v, r.ov.v, r.fl.v]] W fun e w' => ∃ a n c, e = .returned (.slice a n c) ∧ n = r.po.l.length + r.fl.l.length ∧ SlAt 2 ndC w' ⟨a, c, r.po.l ++ r.fl.l⟩ ∧ Below W.heap.size W w' ∧ NewRow 2 W.heap.size w' a n) := Lib.hid (fun W hW hle => rneeds_own r W (hr.below hW) hle)
  obtain ⟨m1, hm1⟩ : ∃ n, r.pa.l.length = n := ⟨_, rfl⟩
  obtain ⟨m2, hm2⟩ : ∃ n, r.po.l.length = n := ⟨_, rfl⟩
  obtain ⟨m3, hm3⟩ : ∃ n, r.ov.l.length = n := ⟨_, rfl⟩
  obtain ⟨m4, hm4⟩ : ∃ n, r.fl.l.length = n := ⟨_, rfl⟩
  have u1 := slv hm1
  have u2 := slv hm2
  have u3 := slv hm3
  have u4 := slv hm4
  obtain ⟨b1, hb1⟩ : ∃ a, r.pa.a = a := ⟨_, rfl⟩
  obtain ⟨e1, he1⟩ : ∃ a, r.pa.c = a := ⟨_, rfl⟩
  rw [hb1, he1] at u1
  obtain ⟨b2, hb2⟩ : ∃ a, r.po.a = a := ⟨_, rfl⟩
  obtain ⟨e2, he2⟩ : ∃ a, r.po.c = a := ⟨_, rfl⟩
  rw [hb2, he2] at u2
  obtain ⟨b3, hb3⟩ : ∃ a, r.ov.a = a := ⟨_, rfl⟩
  obtain ⟨e3, he3⟩ : ∃ a, r.ov.c = a := ⟨_, rfl⟩
  rw [hb3, he3] at u3
  obtain ⟨b4, hb4⟩ : ∃ a, r.fl.a = a := ⟨_, rfl⟩
  obtain ⟨e4, he4⟩ : ∃ a, r.fl.c = a := ⟨_, rfl⟩
  rw [hb4, he4] at u4
  obtain ⟨nm, hnm⟩ : ∃ x, r.nm = x := ⟨_, rfl⟩
  obtain ⟨sg, hsg⟩ : ∃ x, r.sg = x := ⟨_, rfl⟩
  obtain ⟨T, hT⟩ : ∃ T, r.pa.l ++ r.ov.l = T := ⟨_, rfl⟩
  obtain ⟨N, hN⟩ : ∃ N, r.po.l ++ r.fl.l = N := ⟨_, rfl⟩
  have HT : Hid (T.length = m1 + m3) := Lib.hid (by rw [← hT, List.length_append, hm1, hm3])
  have HN : Hid (N.length = m2 + m4) := Lib.hid (by rw [← hN, List.length_append, hm2, hm4])
  rw [hnm, hsg, u1, u2, u3, u4] at MT MU MN MO
  rw [hT, hm1, hm3] at MT MU
  rw [hN, hm2, hm4] at MN MO
  obtain ⟨mt, hmt⟩ : ∃ m, m1 + m3 = m := ⟨_, rfl⟩
  obtain ⟨mn, hmn⟩ : ∃ m, m2 + m4 = m := ⟨_, rfl⟩
  rw [hmt] at MT MU HT
  rw [hmn] at MN MO HN
  rw [hnm, hsg, u1, u2, u3, u4]
  clear hm1 hm2 hm3 hm4 u1 u2 u3 u4 hb1 hb2 hb3 hb4 he1 he2 he3 he4 hnm hsg hT hN hr
  by_cases hm1 : 200 < m1
  · have ym1 : (200 : Int) < (m1 : Nat) := by omega
    clear MT MU MN MO
    go_enter Try.func3, Try.ntmps3
    go_wp2_with fail
    refine (works_is _).mono ?_
    rintro e w3 ⟨rfl, hb3⟩
    go_wp2_with fail
    go_ret
    exact ⟨rfl, below_on (below1 w _) hb3⟩
  have ym1 : ¬ (200 : Int) < (m1 : Nat) := by omega
  by_cases hm3 : 200 < m3
  · have ym3 : (200 : Int) < (m3 : Nat) := by omega
    clear MT MU MN MO
    go_enter Try.func3, Try.ntmps3
    go_wp2_with fail
    refine (works_is _).mono ?_
    rintro e w3 ⟨rfl, hb3⟩
    go_wp2_with fail
    go_ret
    exact ⟨rfl, below_on (below1 w _) hb3⟩
  have ym3 : ¬ (200 : Int) < (m3 : Nat) := by omega
  by_cases hm2 : 200 < m2
  · have ym2 : (200 : Int) < (m2 : Nat) := by omega
    clear MT MU MN MO
    go_enter Try.func3, Try.ntmps3
    go_wp2_with fail
    refine (works_is _).mono ?_
    rintro e w3 ⟨rfl, hb3⟩
    go_wp2_with fail
    go_ret
    exact ⟨rfl, below_on (below1 w _) hb3⟩
  have ym2 : ¬ (200 : Int) < (m2 : Nat) := by omega
  by_cases hm4 : 200 < m4
  · have ym4 : (200 : Int) < (m4 : Nat) := by omega
    clear MT MU MN MO
    go_enter Try.func3, Try.ntmps3
    go_wp2_with fail
    refine (works_is _).mono ?_
    rintro e w3 ⟨rfl, hb3⟩
    go_wp2_with fail
    go_ret
    exact ⟨rfl, below_on (below1 w _) hb3⟩
  have ym4 : ¬ (200 : Int) < (m4 : Nat) := by omega
  have HLE := Lib.hid (show mt ≤ 400 ∧ mn ≤ 400 by omega)
  clear hm1 hm2 hm3 hm4 hmt hmn
  go_enter Try.func3, Try.ntmps3
  go_upto_region 3 with fail
  clear ym1 ym2 ym3 ym4
  refine name_world05 ?_
  intro W0 hW0
  have hq : W0.heap[w.heap.size]? = some (.cells #[.string nm, .int .i64 sg, .slice b1 m1 e1, .slice b2 m2 e2, .slice b3 m3 e3, .slice b4 m4 e4] 25) := by rw [hW0]; exact alloc1 w _ (Below.refl _ _)
  have hb0 : Below w.heap.size w W0 := by rw [hW0]; exact below1 w _
  have hs0 : w.heap.size < W0.heap.size := blk_lt hq
  obtain ⟨gb, hgb⟩ : ∃ g, g = w.heap.size := ⟨_, rfl⟩
  rw [← hgb] at hq hs0 ⊢
  have HGB := Lib.hid hgb
  have HQ := Lib.hid hq
  have HB0 := Lib.hid hb0
  have HS0 := Lib.hid hs0
  have HS : Hid (∀ w', Below W0.heap.size W0 w' → w'.cell? ⟨gb, 0, none⟩ = some (.string nm) ∧ w'.cell? ⟨gb, 1, none⟩ = some (.int .i64 sg) ∧ w'.cell? ⟨gb, 2, none⟩ = some (.slice b1 m1 e1) ∧ w'.cell? ⟨gb, 3, none⟩ = some (.slice b2 m2 e2) ∧ w'.cell? ⟨gb, 4, none⟩ = some (.slice b3 m3 e3) ∧ w'.cell? ⟨gb, 5, none⟩ = some (.slice b4 m4 e4)) := Lib.hid (fun w' hw' => by
    have q := blk_keep hw' hq
    exact ⟨blk_cell q 0 _ rfl, blk_cell q 1 _ rfl, blk_cell q 2 _ rfl, blk_cell q 3 _ rfl, blk_cell q 4 _ rfl, blk_cell q 5 _ rfl⟩)
  clear hW0 hgb hq hb0 hs0
  go_region_held3 (fun w' => w'.cell? ⟨gb, 0, none⟩ = some (.string nm) ∧ w'.cell? ⟨gb, 1, none⟩ = some (.int .i64 sg) ∧ w'.cell? ⟨gb, 2, none⟩ = some (.slice b1 m1 e1) ∧ w'.cell? ⟨gb, 3, none⟩ = some (.slice b2 m2 e2) ∧ w'.cell? ⟨gb, 4, none⟩ = some (.slice b3 m3 e3) ∧ w'.cell? ⟨gb, 5, none⟩ = some (.slice b4 m4 e4))
    (exact HS.out _ (by first | exact (Below.refl _ W0) | exact ((Below.refl _ W0)).drew | assumption))
    (first
      | ((with_reducible refine (MT.out _ (below_on HB0.out (by first | exact (Below.refl _ W0) | exact ((Below.refl _ W0)).drew | assumption)) (by have := HLE.out; omega)).mono ?_); rintro e w1 ⟨ta, tn, tc, rfl, hnt, hst, hbt, hwt⟩; have hBt : Below W0.heap.size W0 w1 := below_on (by first | exact (Below.refl _ W0) | exact ((Below.refl _ W0)).drew | assumption) hbt)
      | ((with_reducible refine (MN.out _ (below_on HB0.out (by first | exact hBt | exact hBt.drew | assumption)) (by have := HLE.out; omega)).mono ?_); rintro e w2 ⟨na, nn, nc, rfl, hnn, hsn, hbn, hwn⟩; have hBn : Below W0.heap.size W0 w2 := below_on (by first | exact hBt | exact hBt.drew | assumption) hbn))
  have hBt0 := hBt
  have hbt0 := hbt
  clear hbt hBt
  go_upto_region 4 with fail
  go_region_held3 (fun w' => w'.cell? ⟨gb, 0, none⟩ = some (.string nm) ∧ w'.cell? ⟨gb, 1, none⟩ = some (.int .i64 sg) ∧ w'.cell? ⟨gb, 2, none⟩ = some (.slice b1 m1 e1) ∧ w'.cell? ⟨gb, 3, none⟩ = some (.slice b2 m2 e2) ∧ w'.cell? ⟨gb, 4, none⟩ = some (.slice b3 m3 e3) ∧ w'.cell? ⟨gb, 5, none⟩ = some (.slice b4 m4 e4))
    (exact HS.out _ (by first | exact hBn | exact (hBn).drew | assumption))
    (first
      | ((with_reducible refine (MU.out _ (below_on HB0.out (by first | exact hBn | exact (hBn).drew | assumption)) (by have := HLE.out; omega)).mono ?_); rintro e w3 ⟨xa, xn, xc, rfl, hnx, hsx, hbx, hwx⟩; have hBx : Below W0.heap.size W0 w3 := below_on (by first | exact hBn | exact (hBn).drew | assumption) hbx)
      | ((with_reducible refine (MO.out _ (below_on HB0.out (by first | exact hBx | exact hBx.drew | assumption)) (by have := HLE.out; omega)).mono ?_); rintro e w4 ⟨ya, yn, yc, rfl, hny, hsy, hby, hwy⟩; have hBy : Below W0.heap.size W0 w4 := below_on (by first | exact hBx | exact hBx.drew | assumption) hby))
  obtain rfl : mt = tn := hnt.symm
  obtain rfl : mn = nn := hnn.symm
  obtain rfl : mt = xn := hnx.symm
  obtain rfl : mn = yn := hny.symm
  have hb2x : Below w2.heap.size w2 w3 := by first | exact hbx | exact below_undrew hbx
  have hb3y : Below w3.heap.size w3 w4 := by first | exact hby | exact below_undrew hby
  have hb1n : Below w1.heap.size w1 w2 := by first | exact hbn | exact below_undrew hbn
  have ht4 := ((mine_in (base := W0.heap.size) hwt).below hb1n).below (hb2x.trans (hb3y.mono hb2x.size))
  have hn4 := (mine_in (base := w1.heap.size) hwn).below (hb2x.trans (hb3y.mono hb2x.size))
  have hx4 : RowIn 1 intC w2.heap.size w3.heap.size w4 ⟨xa, xc, T⟩ := ⟨hsx.below hb3y, by have h := (mine_in (base := w2.heap.size) hwx).below hb3y; rw [← HT.out] at h; exact h⟩
  have hy4 : RowIn 2 ndC w3.heap.size w4.heap.size w4 ⟨ya, yc, N⟩ := ⟨hsy, by have h := mine_in (base := w3.heap.size) hwy; rw [← HN.out] at h; exact h⟩
  have hst4 := hst.below (hb1n.trans ((hb2x.trans (hb3y.mono hb2x.size)).mono hb1n.size))
  have hsn4 := hsn.below (hb2x.trans (hb3y.mono hb2x.size))
  have hsz1 := hBt0.size
  have hP : PaAt w w4 gb W0.heap.size w1.heap.size w2.heap.size w3.heap.size w4.heap.size #[.string nm, .int .i64 sg, .slice b1 m1 e1, .slice b2 m2 e2, .slice b3 m3 e3, .slice b4 m4 e4] ta na mt mn ⟨xa, xc, T⟩ ⟨ya, yc, N⟩ :=
    ⟨blk_keep hBy HQ.out, by rw [HGB.out]; exact Nat.le_refl _, HS0.out, hsz1, hb1n.size, hb2x.size, hb3y.size, ht4, hn4, hx4, hy4, below_on HB0.out hBy⟩
  obtain ⟨s1, hs1⟩ : ∃ s, W0.heap.size = s := ⟨_, rfl⟩
  obtain ⟨s2, hs2⟩ : ∃ s, w1.heap.size = s := ⟨_, rfl⟩
  obtain ⟨s3, hs3⟩ : ∃ s, w2.heap.size = s := ⟨_, rfl⟩
  obtain ⟨s4, hs4⟩ : ∃ s, w3.heap.size = s := ⟨_, rfl⟩
  obtain ⟨s5, hs5⟩ : ∃ s, w4.heap.size = s := ⟨_, rfl⟩
  rw [hs1, hs2, hs3, hs4, hs5] at hP
  have HP := Lib.hid hP
  have HST := Lib.hid hst4
  have HSN := Lib.hid hsn4
  clear hs1 hs2 hs3 hs4 hs5 hP hst4 hsn4 hsz1 hx4 hy4 ht4 hn4 hb2x hb3y hb1n hwt hwn hwx hwy hst hsn hsx hsy hbt0 hBt0 hbn hBn hbx hBx hby hBy HS
  go_upto_region 5 with fail
  go_wp2_with fail
  refine (sameints_to ta mt tc T xa mt xc _ HT.out HT.out (by have := HLE.out; omega) HST.out.row HP.out.x.sl.row).mono ?_
  rintro e w5 ⟨rfl, hb⟩
  have hP := HP.out.step hb
  have hsn := HSN.out.below hb
  clear HP HST HSN hb
  have HP := Lib.hid hP
  have HSN := Lib.hid hsn
  clear hP hsn
  go_wp2_with fail
  refine (sameneeds_to na mn nc N ya mn yc _ HN.out HN.out (by have := HLE.out; omega) HSN.out.row HP.out.y.sl.row).mono ?_
  rintro e w6 ⟨rfl, hb⟩
  have hP := HP.out.step hb
  clear HP HSN hb
  have HP := Lib.hid hP
  clear hP
  go_wp2_with fail
  go_loopg [7] mt (fun g i wr => ∃ k : Nat, k + g = mt ∧ i = .int .i64 (k : Int) ∧ PaAt w wr gb s1 s2 s3 s4 s5 #[.string nm, .int .i64 sg, .slice b1 m1 e1, .slice b2 m2 e2, .slice b3 m3 e3, .slice b4 m4 e4] ta na mt mn ⟨xa, xc, T⟩ ⟨ya, yc, N⟩)
  case atStart => exact ⟨0, by omega, rfl, HP.out⟩
  case round =>
    obtain ⟨k, hk, rfl, hP⟩ := hrel
    clear HP
    have HP := Lib.hid hP
    by_cases hlt : k < mt
    · rcases hP.t with h0 | ⟨gt, cs, t, rfl, g1, g2, g3, g4⟩
      · omega
      obtain ⟨old, hold⟩ : ∃ v, cs[k]? = some v := ⟨_, Array.getElem?_eq_getElem (by omega)⟩
      have z0 := blk_cell g3 k _ hold
      have z1 := blk_free g3 k
      have d1 : (0 : Int) ≤ k := by omega
      have d2 : (k : Int) < mt := by omega
      have e0 : wrap64 ((k : Int) + 1) = (k : Int) + 1 := by have := HLE.out; unfold wrap64; omega
      have HK := Lib.hid hk
      have HG := Lib.hid (And.intro g1 g2)
      have HLT := Lib.hid hlt
      clear hP g1 g2 g3 g4 hold hk hlt
      go_wp2_with fail
      go_roundg (mt - (k + 1))
      case rel => exact ⟨k + 1, by have := HK.out; have := HLT.out; omega, by go_num, HP.out.setT HG.out.1 HG.out.2 k (.int .i64 (-5))⟩
      case measure => have := HK.out; have := HLT.out; omega
    · have d2 : ¬ (k : Int) < mt := by omega
      clear hP hk hlt
      go_wp2_with fail
      clear d2
      go_loopg [8] mn (fun g i wr => ∃ k : Nat, k + g = mn ∧ i = .int .i64 (k : Int) ∧ PaAt w wr gb s1 s2 s3 s4 s5 #[.string nm, .int .i64 sg, .slice b1 m1 e1, .slice b2 m2 e2, .slice b3 m3 e3, .slice b4 m4 e4] ta na mt mn ⟨xa, xc, T⟩ ⟨ya, yc, N⟩)
      case atStart => exact ⟨0, by omega, rfl, HP.out⟩
      case round =>
        obtain ⟨k, hk, rfl, hP⟩ := hrel
        clear HP
        have HP := Lib.hid hP
        by_cases hlt : k < mn
        · rcases hP.n with h0 | ⟨gt, cs, t, rfl, g1, g2, g3, g4⟩
          · omega
          obtain ⟨old, hold⟩ : ∃ v, cs[k * 2]? = some v := ⟨_, Array.getElem?_eq_getElem (by omega)⟩
          obtain ⟨old1, hold1⟩ : ∃ v, cs[k * 2 + 1]? = some v := ⟨_, Array.getElem?_eq_getElem (by omega)⟩
          have z0 := blk_cell g3 (k * 2) _ hold
          have z1 := blk_free g3 (k * 2)
          have z2 := blk_cell g3 (k * 2 + 1) _ hold1
          have z3 := blk_free g3 (k * 2 + 1)
          have d1 : (0 : Int) ≤ k := by omega
          have d2 : (k : Int) < mn := by omega
          have e0 : wrap64 ((k : Int) + 1) = (k : Int) + 1 := by have := HLE.out; unfold wrap64; omega
          have HK := Lib.hid hk
          have HG := Lib.hid (And.intro g1 g2)
          have HLT := Lib.hid hlt
          clear hP g1 g2 g3 g4 hold hold1 hk hlt
          go_wp2_with fail
          go_roundg (mn - (k + 1))
          case rel => exact ⟨k + 1, by have := HK.out; have := HLT.out; omega, by go_num, (HP.out.setN HG.out.1 HG.out.2 (k * 2) (.int .i64 (-5))).setN HG.out.1 HG.out.2 (k * 2 + 1) (.bool false)⟩
          case measure => have := HK.out; have := HLT.out; omega
        · have d2 : ¬ (k : Int) < mn := by omega
          clear hP hk hlt
          obtain ⟨r0, r1, r2, r3, r4, r5⟩ : wr.cell? ⟨gb, 0, none⟩ = some (.string nm) ∧ wr.cell? ⟨gb, 1, none⟩ = some (.int .i64 sg) ∧ wr.cell? ⟨gb, 2, none⟩ = some (.slice b1 m1 e1) ∧ wr.cell? ⟨gb, 3, none⟩ = some (.slice b2 m2 e2) ∧ wr.cell? ⟨gb, 4, none⟩ = some (.slice b3 m3 e3) ∧ wr.cell? ⟨gb, 5, none⟩ = some (.slice b4 m4 e4) := by
            have q := HP.out.box
            exact ⟨blk_cell q 0 _ rfl, blk_cell q 1 _ rfl, blk_cell q 2 _ rfl, blk_cell q 3 _ rfl, blk_cell q 4 _ rfl, blk_cell q 5 _ rfl⟩
          go_wp2_with fail
          clear r0 r1 r2 r3 r4 r5 d2
          refine (MT.out _ HP.out.below (by have := HLE.out; omega)).mono ?_
          rintro e v1 ⟨t2a, t2n, t2c, rfl, hn, hs, hb, _⟩
          obtain rfl : mt = t2n := hn.symm
          have hP := HP.out.step hb
          have HS := Lib.hid hs
          clear HP hb hs
          have HP := Lib.hid hP
          clear hP
          go_wp2_with fail
          refine (sameints_to t2a mt t2c T xa mt xc _ HT.out HT.out (by have := HLE.out; omega) HS.out.row HP.out.x.sl.row).mono ?_
          rintro e v2 ⟨rfl, hb⟩
          have hP := HP.out.step hb
          clear HP hb HS
          have HP := Lib.hid hP
          clear hP
          obtain ⟨r0, r1, r2, r3, r4, r5⟩ : v2.cell? ⟨gb, 0, none⟩ = some (.string nm) ∧ v2.cell? ⟨gb, 1, none⟩ = some (.int .i64 sg) ∧ v2.cell? ⟨gb, 2, none⟩ = some (.slice b1 m1 e1) ∧ v2.cell? ⟨gb, 3, none⟩ = some (.slice b2 m2 e2) ∧ v2.cell? ⟨gb, 4, none⟩ = some (.slice b3 m3 e3) ∧ v2.cell? ⟨gb, 5, none⟩ = some (.slice b4 m4 e4) := by
            have q := HP.out.box
            exact ⟨blk_cell q 0 _ rfl, blk_cell q 1 _ rfl, blk_cell q 2 _ rfl, blk_cell q 3 _ rfl, blk_cell q 4 _ rfl, blk_cell q 5 _ rfl⟩
          go_wp2_with fail
          clear r0 r1 r2 r3 r4 r5
          refine (MN.out _ HP.out.below (by have := HLE.out; omega)).mono ?_
          rintro e v3 ⟨n2a, n2n, n2c, rfl, hn, hs, hb, _⟩
          obtain rfl : mn = n2n := hn.symm
          have hP := HP.out.step hb
          have HS := Lib.hid hs
          clear HP hb hs
          have HP := Lib.hid hP
          clear hP
          go_wp2_with fail
          refine (sameneeds_to n2a mn n2c N ya mn yc _ HN.out HN.out (by have := HLE.out; omega) HS.out.row HP.out.y.sl.row).mono ?_
          rintro e v4 ⟨rfl, hb⟩
          have hP := HP.out.step hb
          clear HP hb HS
          have HP := Lib.hid hP
          clear hP
          go_wp2_with fail
          refine (works_is _).mono ?_
          rintro e v5 ⟨rfl, hb⟩
          have hP := HP.out.step hb
          clear HP hb
          have HP := Lib.hid hP
          clear hP
          go_wp2_with fail
          go_ret
          exact ⟨rfl, HP.out.below⟩
theorem walk_TopoParts (v0 : Array Value) (w : World) (_s0 : v0.size = Try.prog.cellsOf 25) (w0 : Rd Try.prog w 25 v0.toList) :
    Calls Try.prog 3 #[.agg v0] w fun e w' => e = .returned (.bool true) ∧ Below w.heap.size w w' := by
  obtain ⟨r, hv, hr⟩ := rt_el w0
  obtain rfl : v0 = #[.string r.nm, .int .i64 r.sg, r.pa.v, r.po.v, r.ov.v, r.fl.v] := by apply Array.toList_inj.1; rw [hv]; rfl
  exact topoParts_is r w hr
end Go.Proofs.Ytdkcpejlojdijaa
