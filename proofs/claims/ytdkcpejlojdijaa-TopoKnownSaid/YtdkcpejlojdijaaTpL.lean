/-
  The statement TopoKnown: the walk.
-/
import Derived.Test.YtdkcpejlojdijaaTpK
namespace Go.Proofs.Ytdkcpejlojdijaa
open Go.RowKit

/-- the blocks that are written behind Yard's call -/
def XK (b g2 g3 : Nat) : Nat → Prop := fun x => x = b + 16 ∨ x = g2 ∨ x = g3 ∨ x = b + 1 ∨ x = b + 2
/-- what lies in memory when one thing is wrong -/
structure KnI (w V : World) (g2 g3 b : Nat) (S : List BA) (P : List (BA × Int)) (r : Rt) : Prop where
  ya : ∀ i o, 3 ≤ i → (yardO b)[i]? = some o → V.heap[b + i]? = some o
  s : ∃ cs, V.heap[b + 1]? = some (.cells cs 9) ∧ cs.toList = S.flatMap strC
  sl : S.length = 6
  sn : ∀ s ∈ S, s.size ≤ maxLen
  p : ∃ cs, V.heap[b + 2]? = some (.cells cs 51) ∧ cs.toList = P.flatMap ptC
  pl : P.length = 2
  pn : ∀ p ∈ P, p.1.size ≤ maxLen
  lay : V.heap[g2]? = some (.cells #[.slice (some ⟨b + 1, 0, none⟩) 6 6, .slice (some ⟨b + 2, 0, none⟩) 2 2, .slice (some ⟨b + 3, 0, none⟩) 3 3, .slice (some ⟨b + 16, 0, none⟩) 5 5] 39)
  rt : V.heap[g3]? = some (.cells #[.string r.nm, .int .i64 r.sg, r.pa.v, r.po.v, r.ov.v, r.fl.v] 25)
  rx : RtX (XK b g2 g3) V r
  o1 : b + 17 ≤ g2
  o2 : g2 < g3
  ob : w.heap.size ≤ b
  below : Below w.heap.size w V
theorem KnI.setr {w V V1 V2 : World} {g2 g3 b : Nat} {S : List BA} {P : List (BA × Int)} {r r2 : Rt} (h : KnI w V g2 g3 b S P r) (hb : Below V.heap.size V V1) (ho : Only g3 V1 V2) (hq : V2.heap[g3]? = some (.cells #[.string r2.nm, .int .i64 r2.sg, r2.pa.v, r2.po.v, r2.ov.v, r2.fl.v] 25)) (hx : RtX (XK b g2 g3) V1 r2) : KnI w V2 g2 g3 b S P r2 := by
  have o1 := h.o1
  have o2 := h.o2
  have hs := h.below.size
  have ob := h.ob
  refine ⟨fun i o hi hio => ho.keep ?_ (blk_keep hb (h.ya i o hi hio)), ?_, h.sl, h.sn, ?_, h.pl, h.pn, ho.keep (by omega) (blk_keep hb h.lay), hq, hx.step (WX.of_only ho (.inr (.inr (.inl rfl)))), o1, o2, ob, Only.below (below_on h.below hb) (by omega) (Nat.le_trans hs hb.size) ho⟩
  · have hi2 : i < (yardO b).length := (List.getElem?_eq_some_iff.1 hio).1
    have : (yardO b).length = 17 := rfl
    omega
  · obtain ⟨cs, h1, h2⟩ := h.s
    exact ⟨cs, ho.keep (by omega) (blk_keep hb h1), h2⟩
  · obtain ⟨cs, h1, h2⟩ := h.p
    exact ⟨cs, ho.keep (by omega) (blk_keep hb h1), h2⟩
/-- a new row is in no block of XK -/
theorem kn_new {α : Type} {sz : Nat} {f : α → List Value} {w V : World} {g2 g3 b n : Nat} {S : List BA} {P : List (BA × Int)} {r : Rt} (h : KnI w V g2 g3 b S P r) {cs : Array Value} {t : TypeId} {l : List α} (hf : ∀ c, (f c).length = sz) (hcs : cs.toList = l.flatMap f) (hn : l.length = n) (hm : n ≤ maxLen) : SlX sz f (XK b g2 g3) (V.alloc (.cells cs t)) ⟨some ⟨V.heap.size, 0, none⟩, n, l⟩ :=
  yrow hf (alloc1 V _ (Below.refl _ _)) hcs hn hm (fun e => by
    have o1 := h.o1; have o2 := h.o2; have o3 := blk_lt h.rt
    rcases e with e | e | e | e | e <;> omega)
theorem only_set {g : Nat} {a w : World} (h : Only g a w) (i : Nat) (v : Value) : Only g a (w.setCell ⟨g, i, none⟩ v) := h.setCell rfl v
theorem size_set (w : World) (g i : Nat) (v : Value) : (w.setCell ⟨g, i, none⟩ v).heap.size = w.heap.size := by
  show (w.heap.modify g _).size = _
  exact Array.size_modify
theorem KnI.setr2 {w V V1 : World} {g2 g3 b : Nat} {S : List BA} {P : List (BA × Int)} {r r2 : Rt} {cs : Array Value} {t : TypeId} (h : KnI w V g2 g3 b S P r) (ho : Only g3 V V1) (hq : V1.heap[g3]? = some (.cells #[.string r2.nm, .int .i64 r2.sg, r2.pa.v, r2.po.v, r2.ov.v, r2.fl.v] 25)) (hx : RtX (XK b g2 g3) (V1.alloc (.cells cs t)) r2) : KnI w (V1.alloc (.cells cs t)) g2 g3 b S P r2 := by
  have o1 := h.o1
  have o2 := h.o2
  have hs := h.below.size
  have ob := h.ob
  have hb := below1 V1 (.cells cs t)
  have k1 : ∀ (x : Nat) (o : Obj), x ≠ g3 → V.heap[x]? = some o → (V1.alloc (.cells cs t)).heap[x]? = some o := fun x o h1 h2 => blk_keep hb (ho.keep h1 h2)
  refine ⟨fun i o hi hio => k1 _ _ ?_ (h.ya i o hi hio), ?_, h.sl, h.sn, ?_, h.pl, h.pn, k1 _ _ (by omega) h.lay, blk_keep hb hq, hx, o1, o2, ob, below_on (Only.below h.below (by omega) hs ho) hb⟩
  · have hi2 : i < (yardO b).length := (List.getElem?_eq_some_iff.1 hio).1
    have : (yardO b).length = 17 := rfl
    omega
  · obtain ⟨cs, h1, h2⟩ := h.s
    exact ⟨cs, k1 _ _ (by omega) h1, h2⟩
  · obtain ⟨cs, h1, h2⟩ := h.p
    exact ⟨cs, k1 _ _ (by omega) h1, h2⟩
theorem kn_new2 {α : Type} {sz : Nat} {f : α → List Value} {w V V1 : World} {g2 g3 b n : Nat} {S : List BA} {P : List (BA × Int)} {r : Rt} (h : KnI w V g2 g3 b S P r) (hsz : V1.heap.size = V.heap.size) {cs : Array Value} {t : TypeId} {l : List α} (hf : ∀ c, (f c).length = sz) (hcs : cs.toList = l.flatMap f) (hn : l.length = n) (hm : n ≤ maxLen) : SlX sz f (XK b g2 g3) (V1.alloc (.cells cs t)) ⟨some ⟨V.heap.size, 0, none⟩, n, l⟩ := by
  have ha := alloc1 V1 (.cells cs t) (Below.refl _ _)
  rw [hsz] at ha
  exact yrow hf ha hcs hn hm (fun e => by
    have o1 := h.o1; have o2 := h.o2; have o3 := blk_lt h.rt
    rcases e with e | e | e | e | e <;> omega)
theorem KnI.setp {w V V2 : World} {g2 g3 b : Nat} {S : List BA} {P P2 : List (BA × Int)} {r : Rt} (h : KnI w V g2 g3 b S P r) (ho : Only (b + 2) V V2) (hq : ∃ cs, V2.heap[b + 2]? = some (.cells cs 51) ∧ cs.toList = P2.flatMap ptC) (h1 : P2.length = 2) (h2 : ∀ p ∈ P2, p.1.size ≤ maxLen) : KnI w V2 g2 g3 b S P2 r := by
  have o1 := h.o1
  have o2 := h.o2
  have hs := h.below.size
  have ob := h.ob
  refine ⟨fun i o hi hio => ho.keep (by omega) (h.ya i o hi hio), ?_, h.sl, h.sn, hq, h1, h2, ho.keep (by omega) h.lay, ho.keep (by omega) h.rt, h.rx.step (WX.of_only ho (.inr (.inr (.inr (.inr rfl))))), o1, o2, ob, Only.below h.below (by omega) hs ho⟩
  obtain ⟨cs, h1, h2⟩ := h.s
  exact ⟨cs, ho.keep (by omega) h1, h2⟩
theorem KnI.sets {w V V2 : World} {g2 g3 b : Nat} {S S2 : List BA} {P : List (BA × Int)} {r : Rt} (h : KnI w V g2 g3 b S P r) (ho : Only (b + 1) V V2) (hq : ∃ cs, V2.heap[b + 1]? = some (.cells cs 9) ∧ cs.toList = S2.flatMap strC) (h1 : S2.length = 6) (h2 : ∀ s ∈ S2, s.size ≤ maxLen) : KnI w V2 g2 g3 b S2 P r := by
  have o1 := h.o1
  have o2 := h.o2
  have hs := h.below.size
  have ob := h.ob
  refine ⟨fun i o hi hio => ho.keep (by omega) (h.ya i o hi hio), hq, h1, h2, ?_, h.pl, h.pn, ho.keep (by omega) h.lay, ho.keep (by omega) h.rt, h.rx.step (WX.of_only ho (.inr (.inr (.inr (.inl rfl))))), o1, o2, ob, Only.below h.below (by omega) hs ho⟩
  obtain ⟨cs, h1, h2⟩ := h.p
  exact ⟨cs, ho.keep (by omega) h1, h2⟩
/-- the layout, its first route put back -/
def knL (b : Nat) (S : List BA) (P : List (BA × Int)) (r : Rt) : Lay := ⟨⟨(some ⟨b + 1, 0, none⟩), 6, S⟩, ⟨(some ⟨b + 2, 0, none⟩), 2, P⟩, ⟨(some ⟨b + 3, 0, none⟩), 3, yG⟩, ⟨(some ⟨b + 16, 0, none⟩), 5, [r, yR2 b, yR3 b, yR4 b, yR5 b]⟩⟩
theorem KnI.fin {w V V2 : World} {g2 g3 b : Nat} {S : List BA} {P : List (BA × Int)} {r : Rt} (h : KnI w V g2 g3 b S P r) (ho : Only (b + 16) V V2) (hq : ∃ cs, V2.heap[b + 16]? = some (.cells cs 25) ∧ cs.toList = [r, yR2 b, yR3 b, yR4 b, yR5 b].flatMap rtC) :
    LayAt V2 (knL b S P r) ∧ RtAt V2 r ∧ V2.heap[g2]? = some (.cells #[.slice (some ⟨b + 1, 0, none⟩) 6 6, .slice (some ⟨b + 2, 0, none⟩) 2 2, .slice (some ⟨b + 3, 0, none⟩) 3 3, .slice (some ⟨b + 16, 0, none⟩) 5 5] 39) ∧ V2.heap[g3]? = some (.cells #[.string r.nm, .int .i64 r.sg, r.pa.v, r.po.v, r.ov.v, r.fl.v] 25) ∧ Below w.heap.size w V2 := by
  have o1 := h.o1
  have o2 := h.o2
  have hs := h.below.size
  have ob := h.ob
  have hr : RtAt V2 r := (h.rx.step (WX.of_only ho (.inl rfl))).at_
  have ya : ∀ i o, 3 ≤ i → i < 16 → (yardO b)[i]? = some o → V2.heap[b + i]? = some o := fun i o h1 h2 h3 => ho.keep (by omega) (h.ya i o h1 h3)
  refine ⟨?_, hr, ho.keep (by omega) h.lay, ho.keep (by omega) h.rt, Only.below h.below (by omega) hs ho⟩
  obtain ⟨c1, s1, s2⟩ := h.s
  obtain ⟨c2, p1, p2⟩ := h.p
  obtain ⟨c3, q1, q2⟩ := hq
  refine ⟨sl_blk str_len (ho.keep (by omega) s1) s2 h.sl (by decide), sl_blk pt_len (ho.keep (by omega) p1) p2 h.pl (by decide), sl_blk pt_len (ya 3 _ (by decide) (by decide) rfl) rfl rfl (by decide), sl_blk rt_len q1 q2 rfl (by decide), h.sn, h.pn, yG_ok, fun r' hr' => ?_⟩
  have hr2 : r' ∈ [r, yR2 b, yR3 b, yR4 b, yR5 b] := hr'
  simp at hr2
  rcases hr2 with rfl | rfl | rfl | rfl | rfl
  · exact hr
  · exact ⟨by show (⟨#[82, 50]⟩ : BA).size ≤ maxLen; decide, sl_blk int_len (ya 7 _ (by decide) (by decide) rfl) rfl rfl (by decide), sl_blk nd_len (ya 8 _ (by decide) (by decide) rfl) rfl rfl (by decide), sl_none, sl_none⟩
  · exact ⟨by show (⟨#[82, 51]⟩ : BA).size ≤ maxLen; decide, sl_blk int_len (ya 9 _ (by decide) (by decide) rfl) rfl rfl (by decide), sl_blk nd_len (ya 10 _ (by decide) (by decide) rfl) rfl rfl (by decide), sl_none, sl_none⟩
  · exact ⟨by show (⟨#[82, 52]⟩ : BA).size ≤ maxLen; decide, sl_blk int_len (ya 11 _ (by decide) (by decide) rfl) rfl rfl (by decide), sl_none, sl_none, sl_blk nd_len (ya 12 _ (by decide) (by decide) rfl) rfl rfl (by decide)⟩
  · exact ⟨by show (⟨#[82, 53]⟩ : BA).size ≤ maxLen; decide, sl_blk int_len (ya 13 _ (by decide) (by decide) rfl) rfl rfl (by decide), sl_blk nd_len (ya 14 _ (by decide) (by decide) rfl) rfl rfl (by decide), sl_blk int_len (ya 15 _ (by decide) (by decide) rfl) rfl rfl (by decide), sl_none⟩
theorem knL_v {b : Nat} {S : List BA} {P : List (BA × Int)} {r : Rt} (h1 : S.length = 6) (h2 : P.length = 2) : (Value.agg #[(knL b S P r).se.v, (knL b S P r).po.v, (knL b S P r).sg.v, (knL b S P r).rt.v]) = .agg #[.slice (some ⟨b + 1, 0, none⟩) 6 6, .slice (some ⟨b + 2, 0, none⟩) 2 2, .slice (some ⟨b + 3, 0, none⟩) 3 3, .slice (some ⟨b + 16, 0, none⟩) 5 5] := by
  show Value.agg #[Sl.v ⟨_, 6, S⟩, Sl.v ⟨_, 2, P⟩, _, _] = _
  rw [slv2 h1, slv2 h2]
  rfl
theorem kn_row (b : Nat) (nm : BA) (sg : Int) (a1 a2 a3 a4 : Option Addr) (c1 c2 c3 c4 m1 m2 m3 m4 : Nat) (l1 l3 : List Int) (l2 l4 : List (Int × Bool)) (u1 : l1.length = m1) (u2 : l2.length = m2) (u3 : l3.length = m3) (u4 : l4.length = m4) :
    (((((((yRv b).setIfInBounds 0 (.string nm)).setIfInBounds 1 (.int .i64 sg)).setIfInBounds 2 (.slice a1 m1 c1)).setIfInBounds 3 (.slice a2 m2 c2)).setIfInBounds 4 (.slice a3 m3 c3)).setIfInBounds 5 (.slice a4 m4 c4)).toList = [(⟨nm, sg, ⟨a1, c1, l1⟩, ⟨a2, c2, l2⟩, ⟨a3, c3, l3⟩, ⟨a4, c4, l4⟩⟩ : Rt), yR2 b, yR3 b, yR4 b, yR5 b].flatMap rtC := by
  subst u1
  subst u2
  subst u3
  subst u4
  rfl
theorem kn_route (L : Lay) (w : World) (n : Int) (V : Value) (hL : LayAt w L) (hV : (Value.agg #[L.se.v, L.po.v, L.sg.v, L.rt.v]) = V) : Calls Try.prog 5 #[V, .int .i64 n] w fun e w' => e = .returned (.bool true) ∧ Below w.heap.size w w' := hV ▸ topoRoute_is L n w hL
theorem kn_less (L : Lay) (w : World) (n : Int) (V : Value) (hL : LayAt w L) (hV : (Value.agg #[L.se.v, L.po.v, L.sg.v, L.rt.v]) = V) : Calls Try.prog 6 #[V, .int .i64 n] w fun e w' => e = .returned (.bool true) ∧ Below w.heap.size w w' := hV ▸ topoLess_is L n w hL
theorem kn_check (L : Lay) (w : World) (V : Value) (hL : LayAt w L) (hV : (Value.agg #[L.se.v, L.po.v, L.sg.v, L.rt.v]) = V) : Calls Try.prog 4 #[V] w fun e w' => e = .returned (.bool true) ∧ Below w.heap.size w w' := hV ▸ topoCheck_is L w hL
theorem kn_parts (nm : BA) (sg : Int) (a1 a2 a3 a4 : Option Addr) (c1 c2 c3 c4 m1 m2 m3 m4 : Nat) (l1 l3 : List Int) (l2 l4 : List (Int × Bool)) (u1 : l1.length = m1) (u2 : l2.length = m2) (u3 : l3.length = m3) (u4 : l4.length = m4) (w : World) (hr : RtAt w ⟨nm, sg, ⟨a1, c1, l1⟩, ⟨a2, c2, l2⟩, ⟨a3, c3, l3⟩, ⟨a4, c4, l4⟩⟩) :
    Calls Try.prog 3 #[.agg #[.string nm, .int .i64 sg, .slice a1 m1 c1, .slice a2 m2 c2, .slice a3 m3 c3, .slice a4 m4 c4]] w fun e w' => e = .returned (.bool true) ∧ Below w.heap.size w w' := by
  subst u1
  subst u2
  subst u3
  subst u4
  exact topoParts_is ⟨nm, sg, ⟨a1, c1, l1⟩, ⟨a2, c2, l2⟩, ⟨a3, c3, l3⟩, ⟨a4, c4, l4⟩⟩ w hr
theorem eqf {k c : Int} (h : k ≠ c) : (k == c) = false := by simpa using h
theorem eqt {k c : Int} (h : k = c) : (k == c) = true := by simpa using h

set_option maxRecDepth 100000 in
set_option maxHeartbeats 20000000 in
theorem walk_TopoKnown (w : World) : Calls Try.prog 7 #[] w fun e w' => e = .returned (.bool true) ∧ Below w.heap.size w w' := by
  go_enter Try.func7, Try.ntmps7
  go_wp2_with fail
  go_loopg [1, 2, 3, 4] 24 (fun g i _ _ _ wr => ∃ k : Nat, k + g = 24 ∧ i = .int .i64 (k : Int) ∧ Below w.heap.size w wr)
  case atStart => exact ⟨0, by omega, rfl, Below.refl _ _⟩
  case round =>
    obtain ⟨k, hk, rfl, hb⟩ := hrel
    have HB := Lib.hid hb
    have HKK := Lib.hid hk
    clear hb
    by_cases hlt : k < 24
    · have d2 : (k : Int) < 24 := by omega
      have E0 : Hid (wrap64 ((k : Int) + 1) = (k : Int) + 1) := Lib.hid (by unfold wrap64; omega)
      have HLT := Lib.hid hlt
      clear hk hlt
      go_wp2_with fail
      refine (yard_is wr).mono ?_
      rintro e wy ⟨b, hbb, rfl, hy, hby⟩
      have HYA := Lib.hid hy
      have HBY := Lib.hid hby
      have HBB := Lib.hid hbb
      have hrow := hy 16 _ rfl
      have z0 : wy.cell? ⟨b + 16, 0, none⟩ = some (.string ⟨#[82, 49]⟩) := blk_cell hrow 0 _ rfl
      have z1 : wy.cell? ⟨b + 16, 1, none⟩ = some (.int .i64 0) := blk_cell hrow 1 _ rfl
      have z2 : wy.cell? ⟨b + 16, 2, none⟩ = some (.slice (some ⟨b + 4, 0, none⟩) 2 2) := blk_cell hrow 2 _ rfl
      have z3 : wy.cell? ⟨b + 16, 3, none⟩ = some (.slice (some ⟨b + 5, 0, none⟩) 2 2) := blk_cell hrow 3 _ rfl
      have z4 : wy.cell? ⟨b + 16, 4, none⟩ = some (.slice (some ⟨b + 6, 0, none⟩) 1 1) := blk_cell hrow 4 _ rfl
      have z5 : wy.cell? ⟨b + 16, 5, none⟩ = some (.slice none 0 0) := blk_cell hrow 5 _ rfl
      have hl16 := blk_lt hrow
      clear hy hby hbb hrow d2
      go_upto_block 2 with fail
      clear z0 z1 z2 z3 z4 z5 hl16
      refine name_world05 ?_
      intro V hV
      have at_ := allocs_at [.cells #[.slice (some ⟨b + 1, 0, none⟩) 6 6, .slice (some ⟨b + 2, 0, none⟩) 2 2, .slice (some ⟨b + 3, 0, none⟩) 3 3, .slice (some ⟨b + 16, 0, none⟩) 5 5] 39, .cells #[.string ⟨#[82, 49]⟩, .int .i64 0, .slice (some ⟨b + 4, 0, none⟩) 2 2, .slice (some ⟨b + 5, 0, none⟩) 2 2, .slice (some ⟨b + 6, 0, none⟩) 1 1, .slice none 0 0] 25] wy
      have bl_ := allocs_below [.cells #[.slice (some ⟨b + 1, 0, none⟩) 6 6, .slice (some ⟨b + 2, 0, none⟩) 2 2, .slice (some ⟨b + 3, 0, none⟩) 3 3, .slice (some ⟨b + 16, 0, none⟩) 5 5] 39, .cells #[.string ⟨#[82, 49]⟩, .int .i64 0, .slice (some ⟨b + 4, 0, none⟩) 2 2, .slice (some ⟨b + 5, 0, none⟩) 2 2, .slice (some ⟨b + 6, 0, none⟩) 1 1, .slice none 0 0] 25] wy
      rw [show List.foldl World.alloc wy [.cells #[.slice (some ⟨b + 1, 0, none⟩) 6 6, .slice (some ⟨b + 2, 0, none⟩) 2 2, .slice (some ⟨b + 3, 0, none⟩) 3 3, .slice (some ⟨b + 16, 0, none⟩) 5 5] 39, .cells #[.string ⟨#[82, 49]⟩, .int .i64 0, .slice (some ⟨b + 4, 0, none⟩) 2 2, .slice (some ⟨b + 5, 0, none⟩) 2 2, .slice (some ⟨b + 6, 0, none⟩) 1 1, .slice none 0 0] 25] = V by rw [hV]; rfl] at at_ bl_
      have q2 := at_ 0 _ rfl
      have q3 := at_ 1 _ rfl
      rw [Nat.add_zero] at q2
      obtain ⟨g2, hg2⟩ : ∃ g, g = wy.heap.size := ⟨_, rfl⟩
      obtain ⟨g3, hg3⟩ : ∃ g, g = g2 + 1 := ⟨_, rfl⟩
      rw [← hg2] at q2
      rw [← hg2, ← hg3] at q3
      rw [← hg2, ← hg3]
      have hkn : KnI w V g2 g3 b yS yP (yR1 b) := by
        have hy := HYA.out.below bl_
        have hle := yard_le HYA.out
        have hbw := below_on HB.out HBY.out
        refine ⟨fun i o _ hi => hy i o hi, ⟨_, hy 1 _ rfl, rfl⟩, rfl, yS_ok, ⟨_, hy 2 _ rfl, rfl⟩, rfl, yP_ok, q2, q3, ?_, by omega, by omega, by rw [HBB.out]; exact HB.out.size, below_on hbw bl_⟩
        have e1 := HBB.out
        refine ⟨by show (⟨#[82, 49]⟩ : BA).size ≤ maxLen; decide, yrow int_len (hy 4 _ rfl) rfl rfl (by decide) (fun e => ?_), yrow nd_len (hy 5 _ rfl) rfl rfl (by decide) (fun e => ?_), yrow int_len (hy 6 _ rfl) rfl rfl (by decide) (fun e => ?_), SlX.nil⟩
        all_goals rcases e with e | e | e | e | e <;> omega
      have HKN := Lib.hid hkn
      have x1 := blk_cell q2 0 _ rfl
      have x2 := blk_cell q2 1 _ rfl
      have y0 := blk_cell q3 0 _ rfl
      have y1 := blk_cell q3 1 _ rfl
      have y2 := blk_cell q3 2 _ rfl
      have y3 := blk_cell q3 3 _ rfl
      have y4 := blk_cell q3 4 _ rfl
      have y5 := blk_cell q3 5 _ rfl
      have f1 := blk_free q3 1
      have f2 := blk_free q3 2
      have f3 := blk_free q3 3
      have f4 := blk_free q3 4
      have f5 := blk_free q3 5
      have hl3 := blk_lt q3
      have HX := Lib.hid (And.intro x1 x2)
      clear at_ bl_ hV q2 q3 hkn hg2 hg3
      go_cut [14, 15, 16, 17, 18, 19, 20, 21, 22, 23, 24, 25, 26, 27, 28, 29, 30, 31, 32, 33, 34, 35, 36, 37, 38, 39, 40, 41, 42, 43, 44, 45, 46, 47, 48, 49, 50, 51, 52, 53, 54, 55, 56, 57, 58, 59, 60, 61, 62, 63, 64, 65, 66, 67, 68, 69, 70, 71, 72, 73, 74, 75, 76, 77, 78, 79, 80, 81, 82, 83, 84, 85, 86, 87, 88, 89, 90, 91, 92, 93] (fun _s14 _s15 _s16 _s17 _s18 _s19 _s20 _s21 _s22 _s23 _s24 _s25 _s26 _s27 _s28 _s29 _s30 _s31 _s32 _s33 _s34 _s35 _s36 _s37 _s38 _s39 _s40 _s41 _s42 _s43 _s44 _s45 _s46 _s47 _s48 _s49 _s50 _s51 _s52 _s53 _s54 _s55 _s56 _s57 _s58 _s59 _s60 _s61 _s62 _s63 _s64 _s65 _s66 _s67 _s68 _s69 _s70 _s71 _s72 _s73 _s74 _s75 _s76 _s77 _s78 _s79 _s80 _s81 _s82 _s83 _s84 _s85 _s86 _s87 _s88 _s89 _s90 _s91 _s92 _s93 wx => ∃ (S : List BA) (P : List (BA × Int)) (r : Rt), KnI w wx g2 g3 b S P r)
      case first =>
        rcases (show k = 0 ∨ k = 1 ∨ k = 2 ∨ k = 3 ∨ k = 4 ∨ k = 5 ∨ k = 6 ∨ k = 7 ∨ k = 8 ∨ k = 9 ∨ k = 10 ∨ k = 11 ∨ k = 12 ∨ k = 13 ∨ k = 14 ∨ k = 15 ∨ k = 16 ∨ k = 17 ∨ 18 ≤ k by omega) with hk7 | hk7 | hk7 | hk7 | hk7 | hk7 | hk7 | hk7 | hk7 | hk7 | hk7 | hk7 | hk7 | hk7 | hk7 | hk7 | hk7 | hk7 | hk7
        · have t0 : ((k : Int) == 0) = true := eqt (by omega)
          clear hk7
          go_wp2_with fail
          go_meet
          have h := HKN.out
          exact ⟨yS, yP, ⟨⟨#[82, 49]⟩, 0, ⟨none, 0, []⟩, ⟨(some ⟨b + 5, 0, none⟩), 2, [(0, false), (1, false)]⟩, ⟨(some ⟨b + 6, 0, none⟩), 1, [3]⟩, ⟨none, 0, []⟩⟩, h.setr (Below.refl _ V) ((Only.refl g3 _).setCell rfl (.slice none 0 0)) (blk_set h.rt 2 (.slice none 0 0)) ⟨h.rx.nm, SlX.nil, h.rx.po, h.rx.ov, h.rx.fl⟩⟩
        · have t0 : ((k : Int) == 0) = false := eqf (by omega)
          have t1 : ((k : Int) == 1) = true := eqt (by omega)
          clear hk7
          go_wp2_with fail
          go_meet
          have h := HKN.out
          have ho : Only g3 V (V.setCell ⟨g3, 2, none⟩ (.slice (some ⟨V.heap.size, 0, none⟩) 3 3)) := ((Only.refl g3 V).setCell rfl (.slice (some ⟨V.heap.size, 0, none⟩) 3 3))
          exact ⟨yS, yP, ⟨⟨#[82, 49]⟩, 0, ⟨some ⟨V.heap.size, 0, none⟩, 3, [1, 2, 1]⟩, ⟨(some ⟨b + 5, 0, none⟩), 2, [(0, false), (1, false)]⟩, ⟨(some ⟨b + 6, 0, none⟩), 1, [3]⟩, ⟨none, 0, []⟩⟩, h.setr2 ho (blk_set h.rt 2 (.slice (some ⟨V.heap.size, 0, none⟩) 3 3)) ⟨h.rx.nm, (kn_new2 h (size_set V g3 2 (.slice (some ⟨V.heap.size, 0, none⟩) 3 3)) int_len rfl rfl (by decide)), ((h.rx.po.step (WX.of_only ho (.inr (.inr (.inl rfl))))).step (WX.of_below (below1 _ _))), ((h.rx.ov.step (WX.of_only ho (.inr (.inr (.inl rfl))))).step (WX.of_below (below1 _ _))), ((h.rx.fl.step (WX.of_only ho (.inr (.inr (.inl rfl))))).step (WX.of_below (below1 _ _)))⟩⟩
        · have t0 : ((k : Int) == 0) = false := eqf (by omega)
          have t1 : ((k : Int) == 1) = false := eqf (by omega)
          have t2 : ((k : Int) == 2) = true := eqt (by omega)
          clear hk7
          go_wp2_with fail
          go_meet
          have h := HKN.out
          have ho : Only g3 V (V.setCell ⟨g3, 4, none⟩ (.slice (some ⟨V.heap.size, 0, none⟩) 1 1)) := ((Only.refl g3 V).setCell rfl (.slice (some ⟨V.heap.size, 0, none⟩) 1 1))
          exact ⟨yS, yP, ⟨⟨#[82, 49]⟩, 0, ⟨(some ⟨b + 4, 0, none⟩), 2, [1, 2]⟩, ⟨(some ⟨b + 5, 0, none⟩), 2, [(0, false), (1, false)]⟩, ⟨some ⟨V.heap.size, 0, none⟩, 1, [2]⟩, ⟨none, 0, []⟩⟩, h.setr2 ho (blk_set h.rt 4 (.slice (some ⟨V.heap.size, 0, none⟩) 1 1)) ⟨h.rx.nm, ((h.rx.pa.step (WX.of_only ho (.inr (.inr (.inl rfl))))).step (WX.of_below (below1 _ _))), ((h.rx.po.step (WX.of_only ho (.inr (.inr (.inl rfl))))).step (WX.of_below (below1 _ _))), (kn_new2 h (size_set V g3 4 (.slice (some ⟨V.heap.size, 0, none⟩) 1 1)) int_len rfl rfl (by decide)), ((h.rx.fl.step (WX.of_only ho (.inr (.inr (.inl rfl))))).step (WX.of_below (below1 _ _)))⟩⟩
        · have t0 : ((k : Int) == 0) = false := eqf (by omega)
          have t1 : ((k : Int) == 1) = false := eqf (by omega)
          have t2 : ((k : Int) == 2) = false := eqf (by omega)
          have t3 : ((k : Int) == 3) = true := eqt (by omega)
          clear hk7
          go_wp2_with fail
          go_meet
          have h := HKN.out
          have ho : Only g3 V (V.setCell ⟨g3, 2, none⟩ (.slice (some ⟨V.heap.size, 0, none⟩) 2 2)) := ((Only.refl g3 V).setCell rfl (.slice (some ⟨V.heap.size, 0, none⟩) 2 2))
          exact ⟨yS, yP, ⟨⟨#[82, 49]⟩, 0, ⟨some ⟨V.heap.size, 0, none⟩, 2, [1, 0]⟩, ⟨(some ⟨b + 5, 0, none⟩), 2, [(0, false), (1, false)]⟩, ⟨(some ⟨b + 6, 0, none⟩), 1, [3]⟩, ⟨none, 0, []⟩⟩, h.setr2 ho (blk_set h.rt 2 (.slice (some ⟨V.heap.size, 0, none⟩) 2 2)) ⟨h.rx.nm, (kn_new2 h (size_set V g3 2 (.slice (some ⟨V.heap.size, 0, none⟩) 2 2)) int_len rfl rfl (by decide)), ((h.rx.po.step (WX.of_only ho (.inr (.inr (.inl rfl))))).step (WX.of_below (below1 _ _))), ((h.rx.ov.step (WX.of_only ho (.inr (.inr (.inl rfl))))).step (WX.of_below (below1 _ _))), ((h.rx.fl.step (WX.of_only ho (.inr (.inr (.inl rfl))))).step (WX.of_below (below1 _ _)))⟩⟩
        · have t0 : ((k : Int) == 0) = false := eqf (by omega)
          have t1 : ((k : Int) == 1) = false := eqf (by omega)
          have t2 : ((k : Int) == 2) = false := eqf (by omega)
          have t3 : ((k : Int) == 3) = false := eqf (by omega)
          have t4 : ((k : Int) == 4) = true := eqt (by omega)
          clear hk7
          go_wp2_with fail
          go_meet
          have h := HKN.out
          have ho : Only g3 V (V.setCell ⟨g3, 4, none⟩ (.slice (some ⟨V.heap.size, 0, none⟩) 1 1)) := ((Only.refl g3 V).setCell rfl (.slice (some ⟨V.heap.size, 0, none⟩) 1 1))
          exact ⟨yS, yP, ⟨⟨#[82, 49]⟩, 0, ⟨(some ⟨b + 4, 0, none⟩), 2, [1, 2]⟩, ⟨(some ⟨b + 5, 0, none⟩), 2, [(0, false), (1, false)]⟩, ⟨some ⟨V.heap.size, 0, none⟩, 1, [0]⟩, ⟨none, 0, []⟩⟩, h.setr2 ho (blk_set h.rt 4 (.slice (some ⟨V.heap.size, 0, none⟩) 1 1)) ⟨h.rx.nm, ((h.rx.pa.step (WX.of_only ho (.inr (.inr (.inl rfl))))).step (WX.of_below (below1 _ _))), ((h.rx.po.step (WX.of_only ho (.inr (.inr (.inl rfl))))).step (WX.of_below (below1 _ _))), (kn_new2 h (size_set V g3 4 (.slice (some ⟨V.heap.size, 0, none⟩) 1 1)) int_len rfl rfl (by decide)), ((h.rx.fl.step (WX.of_only ho (.inr (.inr (.inl rfl))))).step (WX.of_below (below1 _ _)))⟩⟩
        · have t0 : ((k : Int) == 0) = false := eqf (by omega)
          have t1 : ((k : Int) == 1) = false := eqf (by omega)
          have t2 : ((k : Int) == 2) = false := eqf (by omega)
          have t3 : ((k : Int) == 3) = false := eqf (by omega)
          have t4 : ((k : Int) == 4) = false := eqf (by omega)
          have t5 : ((k : Int) == 5) = true := eqt (by omega)
          clear hk7
          go_wp2_with fail
          go_meet
          have h := HKN.out
          exact ⟨yS, yP, ⟨⟨#[82, 49]⟩, 0, ⟨(some ⟨b + 4, 0, none⟩), 2, [1, 2]⟩, ⟨none, 0, []⟩, ⟨(some ⟨b + 6, 0, none⟩), 1, [3]⟩, ⟨none, 0, []⟩⟩, h.setr (Below.refl _ V) ((Only.refl g3 _).setCell rfl (.slice none 0 0)) (blk_set h.rt 3 (.slice none 0 0)) ⟨h.rx.nm, h.rx.pa, SlX.nil, h.rx.ov, h.rx.fl⟩⟩
        · have t0 : ((k : Int) == 0) = false := eqf (by omega)
          have t1 : ((k : Int) == 1) = false := eqf (by omega)
          have t2 : ((k : Int) == 2) = false := eqf (by omega)
          have t3 : ((k : Int) == 3) = false := eqf (by omega)
          have t4 : ((k : Int) == 4) = false := eqf (by omega)
          have t5 : ((k : Int) == 5) = false := eqf (by omega)
          have t6 : ((k : Int) == 6) = true := eqt (by omega)
          clear hk7
          go_wp2_with fail
          go_meet
          have h := HKN.out
          have ho : Only g3 V (V.setCell ⟨g3, 3, none⟩ (.slice (some ⟨V.heap.size, 0, none⟩) 2 2)) := ((Only.refl g3 V).setCell rfl (.slice (some ⟨V.heap.size, 0, none⟩) 2 2))
          exact ⟨yS, yP, ⟨⟨#[82, 49]⟩, 0, ⟨(some ⟨b + 4, 0, none⟩), 2, [1, 2]⟩, ⟨some ⟨V.heap.size, 0, none⟩, 2, [(0, false), (0, false)]⟩, ⟨(some ⟨b + 6, 0, none⟩), 1, [3]⟩, ⟨none, 0, []⟩⟩, h.setr2 ho (blk_set h.rt 3 (.slice (some ⟨V.heap.size, 0, none⟩) 2 2)) ⟨h.rx.nm, ((h.rx.pa.step (WX.of_only ho (.inr (.inr (.inl rfl))))).step (WX.of_below (below1 _ _))), (kn_new2 h (size_set V g3 3 (.slice (some ⟨V.heap.size, 0, none⟩) 2 2)) nd_len rfl rfl (by decide)), ((h.rx.ov.step (WX.of_only ho (.inr (.inr (.inl rfl))))).step (WX.of_below (below1 _ _))), ((h.rx.fl.step (WX.of_only ho (.inr (.inr (.inl rfl))))).step (WX.of_below (below1 _ _)))⟩⟩
        · have t0 : ((k : Int) == 0) = false := eqf (by omega)
          have t1 : ((k : Int) == 1) = false := eqf (by omega)
          have t2 : ((k : Int) == 2) = false := eqf (by omega)
          have t3 : ((k : Int) == 3) = false := eqf (by omega)
          have t4 : ((k : Int) == 4) = false := eqf (by omega)
          have t5 : ((k : Int) == 5) = false := eqf (by omega)
          have t6 : ((k : Int) == 6) = false := eqf (by omega)
          have t7 : ((k : Int) == 7) = true := eqt (by omega)
          clear hk7
          go_wp2_with fail
          go_meet
          have h := HKN.out
          have ho : Only g3 V (V.setCell ⟨g3, 3, none⟩ (.slice (some ⟨V.heap.size, 0, none⟩) 2 2)) := ((Only.refl g3 V).setCell rfl (.slice (some ⟨V.heap.size, 0, none⟩) 2 2))
          exact ⟨yS, yP, ⟨⟨#[82, 49]⟩, 0, ⟨(some ⟨b + 4, 0, none⟩), 2, [1, 2]⟩, ⟨some ⟨V.heap.size, 0, none⟩, 2, [(0, false), (0, true)]⟩, ⟨(some ⟨b + 6, 0, none⟩), 1, [3]⟩, ⟨none, 0, []⟩⟩, h.setr2 ho (blk_set h.rt 3 (.slice (some ⟨V.heap.size, 0, none⟩) 2 2)) ⟨h.rx.nm, ((h.rx.pa.step (WX.of_only ho (.inr (.inr (.inl rfl))))).step (WX.of_below (below1 _ _))), (kn_new2 h (size_set V g3 3 (.slice (some ⟨V.heap.size, 0, none⟩) 2 2)) nd_len rfl rfl (by decide)), ((h.rx.ov.step (WX.of_only ho (.inr (.inr (.inl rfl))))).step (WX.of_below (below1 _ _))), ((h.rx.fl.step (WX.of_only ho (.inr (.inr (.inl rfl))))).step (WX.of_below (below1 _ _)))⟩⟩
        · have t0 : ((k : Int) == 0) = false := eqf (by omega)
          have t1 : ((k : Int) == 1) = false := eqf (by omega)
          have t2 : ((k : Int) == 2) = false := eqf (by omega)
          have t3 : ((k : Int) == 3) = false := eqf (by omega)
          have t4 : ((k : Int) == 4) = false := eqf (by omega)
          have t5 : ((k : Int) == 5) = false := eqf (by omega)
          have t6 : ((k : Int) == 6) = false := eqf (by omega)
          have t7 : ((k : Int) == 7) = false := eqf (by omega)
          have t8 : ((k : Int) == 8) = true := eqt (by omega)
          clear hk7
          go_wp2_with fail
          go_meet
          have h := HKN.out
          have ho : Only g3 V (V.setCell ⟨g3, 5, none⟩ (.slice (some ⟨V.heap.size, 0, none⟩) 1 1)) := ((Only.refl g3 V).setCell rfl (.slice (some ⟨V.heap.size, 0, none⟩) 1 1))
          exact ⟨yS, yP, ⟨⟨#[82, 49]⟩, 0, ⟨(some ⟨b + 4, 0, none⟩), 2, [1, 2]⟩, ⟨(some ⟨b + 5, 0, none⟩), 2, [(0, false), (1, false)]⟩, ⟨(some ⟨b + 6, 0, none⟩), 1, [3]⟩, ⟨some ⟨V.heap.size, 0, none⟩, 1, [(0, true)]⟩⟩, h.setr2 ho (blk_set h.rt 5 (.slice (some ⟨V.heap.size, 0, none⟩) 1 1)) ⟨h.rx.nm, ((h.rx.pa.step (WX.of_only ho (.inr (.inr (.inl rfl))))).step (WX.of_below (below1 _ _))), ((h.rx.po.step (WX.of_only ho (.inr (.inr (.inl rfl))))).step (WX.of_below (below1 _ _))), ((h.rx.ov.step (WX.of_only ho (.inr (.inr (.inl rfl))))).step (WX.of_below (below1 _ _))), (kn_new2 h (size_set V g3 5 (.slice (some ⟨V.heap.size, 0, none⟩) 1 1)) nd_len rfl rfl (by decide))⟩⟩
        · have t0 : ((k : Int) == 0) = false := eqf (by omega)
          have t1 : ((k : Int) == 1) = false := eqf (by omega)
          have t2 : ((k : Int) == 2) = false := eqf (by omega)
          have t3 : ((k : Int) == 3) = false := eqf (by omega)
          have t4 : ((k : Int) == 4) = false := eqf (by omega)
          have t5 : ((k : Int) == 5) = false := eqf (by omega)
          have t6 : ((k : Int) == 6) = false := eqf (by omega)
          have t7 : ((k : Int) == 7) = false := eqf (by omega)
          have t8 : ((k : Int) == 8) = false := eqf (by omega)
          have t9 : ((k : Int) == 9) = true := eqt (by omega)
          clear hk7
          go_wp2_with fail
          go_meet
          have h := HKN.out
          exact ⟨yS, yP, ⟨⟨#[82, 49]⟩, 0, ⟨(some ⟨b + 4, 0, none⟩), 2, [1, 2]⟩, ⟨(some ⟨b + 5, 0, none⟩), 2, [(0, false), (1, false)]⟩, ⟨(some ⟨b + 6, 0, none⟩), 1, [3]⟩, ⟨none, 0, []⟩⟩, h.setr (Below.refl _ V) ((Only.refl g3 _).setCell rfl (.slice none 0 0)) (blk_set h.rt 5 (.slice none 0 0)) ⟨h.rx.nm, h.rx.pa, h.rx.po, h.rx.ov, SlX.nil⟩⟩
        · have t0 : ((k : Int) == 0) = false := eqf (by omega)
          have t1 : ((k : Int) == 1) = false := eqf (by omega)
          have t2 : ((k : Int) == 2) = false := eqf (by omega)
          have t3 : ((k : Int) == 3) = false := eqf (by omega)
          have t4 : ((k : Int) == 4) = false := eqf (by omega)
          have t5 : ((k : Int) == 5) = false := eqf (by omega)
          have t6 : ((k : Int) == 6) = false := eqf (by omega)
          have t7 : ((k : Int) == 7) = false := eqf (by omega)
          have t8 : ((k : Int) == 8) = false := eqf (by omega)
          have t9 : ((k : Int) == 9) = false := eqf (by omega)
          have t10 : ((k : Int) == 10) = true := eqt (by omega)
          clear hk7
          go_wp2_with fail
          go_meet
          have h := HKN.out
          exact ⟨yS, yP, ⟨⟨#[82, 49]⟩, 0, ⟨(some ⟨b + 4, 0, none⟩), 2, [1, 2]⟩, ⟨(some ⟨b + 5, 0, none⟩), 2, [(0, false), (1, false)]⟩, ⟨none, 0, []⟩, ⟨none, 0, []⟩⟩, h.setr (Below.refl _ V) ((Only.refl g3 _).setCell rfl (.slice none 0 0)) (blk_set h.rt 4 (.slice none 0 0)) ⟨h.rx.nm, h.rx.pa, h.rx.po, SlX.nil, h.rx.fl⟩⟩
        · have t0 : ((k : Int) == 0) = false := eqf (by omega)
          have t1 : ((k : Int) == 1) = false := eqf (by omega)
          have t2 : ((k : Int) == 2) = false := eqf (by omega)
          have t3 : ((k : Int) == 3) = false := eqf (by omega)
          have t4 : ((k : Int) == 4) = false := eqf (by omega)
          have t5 : ((k : Int) == 5) = false := eqf (by omega)
          have t6 : ((k : Int) == 6) = false := eqf (by omega)
          have t7 : ((k : Int) == 7) = false := eqf (by omega)
          have t8 : ((k : Int) == 8) = false := eqf (by omega)
          have t9 : ((k : Int) == 9) = false := eqf (by omega)
          have t10 : ((k : Int) == 10) = false := eqf (by omega)
          have t11 : ((k : Int) == 11) = true := eqt (by omega)
          clear hk7
          go_wp2_with fail
          go_meet
          have h := HKN.out
          exact ⟨yS, yP, ⟨⟨#[82, 49]⟩, 0, ⟨(some ⟨b + 4, 0, none⟩), 2, [1, 2]⟩, ⟨(some ⟨b + 5, 0, none⟩), 2, [(0, false), (1, false)]⟩, ⟨none, 0, []⟩, ⟨none, 0, []⟩⟩, h.setr (Below.refl _ V) (((Only.refl g3 _).setCell rfl (.slice none 0 0)).setCell rfl (.slice none 0 0)) (blk_set (blk_set h.rt 4 (.slice none 0 0)) 5 (.slice none 0 0)) ⟨h.rx.nm, h.rx.pa, h.rx.po, SlX.nil, SlX.nil⟩⟩
        · have t0 : ((k : Int) == 0) = false := eqf (by omega)
          have t1 : ((k : Int) == 1) = false := eqf (by omega)
          have t2 : ((k : Int) == 2) = false := eqf (by omega)
          have t3 : ((k : Int) == 3) = false := eqf (by omega)
          have t4 : ((k : Int) == 4) = false := eqf (by omega)
          have t5 : ((k : Int) == 5) = false := eqf (by omega)
          have t6 : ((k : Int) == 6) = false := eqf (by omega)
          have t7 : ((k : Int) == 7) = false := eqf (by omega)
          have t8 : ((k : Int) == 8) = false := eqf (by omega)
          have t9 : ((k : Int) == 9) = false := eqf (by omega)
          have t10 : ((k : Int) == 10) = false := eqf (by omega)
          have t11 : ((k : Int) == 11) = false := eqf (by omega)
          have t12 : ((k : Int) == 12) = true := eqt (by omega)
          clear hk7
          go_wp2_with fail
          go_meet
          have h := HKN.out
          have ho : Only g3 V ((V.setCell ⟨g3, 3, none⟩ (.slice (some ⟨V.heap.size, 0, none⟩) 2 2)).setCell ⟨g3, 5, none⟩ (.slice none 0 0)) := (((Only.refl g3 V).setCell rfl (.slice (some ⟨V.heap.size, 0, none⟩) 2 2)).setCell rfl (.slice none 0 0))
          exact ⟨yS, yP, ⟨⟨#[82, 49]⟩, 0, ⟨(some ⟨b + 4, 0, none⟩), 2, [1, 2]⟩, ⟨some ⟨V.heap.size, 0, none⟩, 2, [(0, false), (1, false)]⟩, ⟨(some ⟨b + 6, 0, none⟩), 1, [3]⟩, ⟨none, 0, []⟩⟩, h.setr2 ho (blk_set (blk_set h.rt 3 (.slice (some ⟨V.heap.size, 0, none⟩) 2 2)) 5 (.slice none 0 0)) ⟨h.rx.nm, ((h.rx.pa.step (WX.of_only ho (.inr (.inr (.inl rfl))))).step (WX.of_below (below1 _ _))), (kn_new2 h ((size_set (V.setCell ⟨g3, 3, none⟩ (.slice (some ⟨V.heap.size, 0, none⟩) 2 2)) g3 5 (.slice none 0 0)).trans (size_set V g3 3 (.slice (some ⟨V.heap.size, 0, none⟩) 2 2))) nd_len rfl rfl (by decide)), ((h.rx.ov.step (WX.of_only ho (.inr (.inr (.inl rfl))))).step (WX.of_below (below1 _ _))), SlX.nil⟩⟩
        · have t0 : ((k : Int) == 0) = false := eqf (by omega)
          have t1 : ((k : Int) == 1) = false := eqf (by omega)
          have t2 : ((k : Int) == 2) = false := eqf (by omega)
          have t3 : ((k : Int) == 3) = false := eqf (by omega)
          have t4 : ((k : Int) == 4) = false := eqf (by omega)
          have t5 : ((k : Int) == 5) = false := eqf (by omega)
          have t6 : ((k : Int) == 6) = false := eqf (by omega)
          have t7 : ((k : Int) == 7) = false := eqf (by omega)
          have t8 : ((k : Int) == 8) = false := eqf (by omega)
          have t9 : ((k : Int) == 9) = false := eqf (by omega)
          have t10 : ((k : Int) == 10) = false := eqf (by omega)
          have t11 : ((k : Int) == 11) = false := eqf (by omega)
          have t12 : ((k : Int) == 12) = false := eqf (by omega)
          have t13 : ((k : Int) == 13) = true := eqt (by omega)
          clear hk7
          go_wp2_with fail
          go_meet
          have h := HKN.out
          have ho : Only g3 V (V.setCell ⟨g3, 3, none⟩ (.slice (some ⟨V.heap.size, 0, none⟩) 2 2)) := ((Only.refl g3 V).setCell rfl (.slice (some ⟨V.heap.size, 0, none⟩) 2 2))
          exact ⟨yS, yP, ⟨⟨#[82, 49]⟩, 0, ⟨(some ⟨b + 4, 0, none⟩), 2, [1, 2]⟩, ⟨some ⟨V.heap.size, 0, none⟩, 2, [(0, false), (1, false)]⟩, ⟨(some ⟨b + 6, 0, none⟩), 1, [3]⟩, ⟨none, 0, []⟩⟩, h.setr2 ho (blk_set h.rt 3 (.slice (some ⟨V.heap.size, 0, none⟩) 2 2)) ⟨h.rx.nm, ((h.rx.pa.step (WX.of_only ho (.inr (.inr (.inl rfl))))).step (WX.of_below (below1 _ _))), (kn_new2 h (size_set V g3 3 (.slice (some ⟨V.heap.size, 0, none⟩) 2 2)) nd_len rfl rfl (by decide)), ((h.rx.ov.step (WX.of_only ho (.inr (.inr (.inl rfl))))).step (WX.of_below (below1 _ _))), ((h.rx.fl.step (WX.of_only ho (.inr (.inr (.inl rfl))))).step (WX.of_below (below1 _ _)))⟩⟩
        · have t0 : ((k : Int) == 0) = false := eqf (by omega)
          have t1 : ((k : Int) == 1) = false := eqf (by omega)
          have t2 : ((k : Int) == 2) = false := eqf (by omega)
          have t3 : ((k : Int) == 3) = false := eqf (by omega)
          have t4 : ((k : Int) == 4) = false := eqf (by omega)
          have t5 : ((k : Int) == 5) = false := eqf (by omega)
          have t6 : ((k : Int) == 6) = false := eqf (by omega)
          have t7 : ((k : Int) == 7) = false := eqf (by omega)
          have t8 : ((k : Int) == 8) = false := eqf (by omega)
          have t9 : ((k : Int) == 9) = false := eqf (by omega)
          have t10 : ((k : Int) == 10) = false := eqf (by omega)
          have t11 : ((k : Int) == 11) = false := eqf (by omega)
          have t12 : ((k : Int) == 12) = false := eqf (by omega)
          have t13 : ((k : Int) == 13) = false := eqf (by omega)
          have t14 : ((k : Int) == 14) = true := eqt (by omega)
          clear hk7
          go_wp2_with fail
          go_meet
          have h := HKN.out
          exact ⟨yS, yP, ⟨⟨#[82, 49]⟩, 9, ⟨(some ⟨b + 4, 0, none⟩), 2, [1, 2]⟩, ⟨(some ⟨b + 5, 0, none⟩), 2, [(0, false), (1, false)]⟩, ⟨(some ⟨b + 6, 0, none⟩), 1, [3]⟩, ⟨none, 0, []⟩⟩, h.setr (Below.refl _ V) ((Only.refl g3 _).setCell rfl (.int .i64 9)) (blk_set h.rt 1 (.int .i64 9)) ⟨h.rx.nm, h.rx.pa, h.rx.po, h.rx.ov, h.rx.fl⟩⟩
        · have t0 : ((k : Int) == 0) = false := eqf (by omega)
          have t1 : ((k : Int) == 1) = false := eqf (by omega)
          have t2 : ((k : Int) == 2) = false := eqf (by omega)
          have t3 : ((k : Int) == 3) = false := eqf (by omega)
          have t4 : ((k : Int) == 4) = false := eqf (by omega)
          have t5 : ((k : Int) == 5) = false := eqf (by omega)
          have t6 : ((k : Int) == 6) = false := eqf (by omega)
          have t7 : ((k : Int) == 7) = false := eqf (by omega)
          have t8 : ((k : Int) == 8) = false := eqf (by omega)
          have t9 : ((k : Int) == 9) = false := eqf (by omega)
          have t10 : ((k : Int) == 10) = false := eqf (by omega)
          have t11 : ((k : Int) == 11) = false := eqf (by omega)
          have t12 : ((k : Int) == 12) = false := eqf (by omega)
          have t13 : ((k : Int) == 13) = false := eqf (by omega)
          have t14 : ((k : Int) == 14) = false := eqf (by omega)
          have t15 : ((k : Int) == 15) = true := eqt (by omega)
          clear hk7
          go_wp2_with fail
          go_meet
          have h := HKN.out
          exact ⟨yS, yP, ⟨⟨#[82, 49]⟩, 2, ⟨(some ⟨b + 4, 0, none⟩), 2, [1, 2]⟩, ⟨(some ⟨b + 5, 0, none⟩), 2, [(0, false), (1, false)]⟩, ⟨(some ⟨b + 6, 0, none⟩), 1, [3]⟩, ⟨none, 0, []⟩⟩, h.setr (Below.refl _ V) ((Only.refl g3 _).setCell rfl (.int .i64 2)) (blk_set h.rt 1 (.int .i64 2)) ⟨h.rx.nm, h.rx.pa, h.rx.po, h.rx.ov, h.rx.fl⟩⟩
        · have t0 : ((k : Int) == 0) = false := eqf (by omega)
          have t1 : ((k : Int) == 1) = false := eqf (by omega)
          have t2 : ((k : Int) == 2) = false := eqf (by omega)
          have t3 : ((k : Int) == 3) = false := eqf (by omega)
          have t4 : ((k : Int) == 4) = false := eqf (by omega)
          have t5 : ((k : Int) == 5) = false := eqf (by omega)
          have t6 : ((k : Int) == 6) = false := eqf (by omega)
          have t7 : ((k : Int) == 7) = false := eqf (by omega)
          have t8 : ((k : Int) == 8) = false := eqf (by omega)
          have t9 : ((k : Int) == 9) = false := eqf (by omega)
          have t10 : ((k : Int) == 10) = false := eqf (by omega)
          have t11 : ((k : Int) == 11) = false := eqf (by omega)
          have t12 : ((k : Int) == 12) = false := eqf (by omega)
          have t13 : ((k : Int) == 13) = false := eqf (by omega)
          have t14 : ((k : Int) == 14) = false := eqf (by omega)
          have t15 : ((k : Int) == 15) = false := eqf (by omega)
          have t16 : ((k : Int) == 16) = true := eqt (by omega)
          clear hk7
          have y2 := HKN.out.ya
          obtain ⟨cs, q, hcs⟩ := HKN.out.p
          obtain rfl : cs = #[.string ⟨#[80]⟩, .int .i64 1, .string ⟨#[81]⟩, .int .i64 3] := by apply Array.toList_inj.1; rw [hcs]; rfl
          have z3 := blk_cell q 3 _ rfl
          have f3 := blk_free q 3
          have HQ := Lib.hid q
          clear y2 q hcs
          go_wp2_with fail
          go_meet
          exact ⟨yS, [(⟨#[80]⟩, 1), (⟨#[81]⟩, 5)], _, HKN.out.setp ((Only.refl (b + 2) V).setCell (p := ⟨b + 2, 3, none⟩) rfl _) ⟨_, blk_set HQ.out 3 _, rfl⟩ rfl (by intro s hs; simp at hs; rcases hs with rfl | rfl <;> decide)⟩
        · have t0 : ((k : Int) == 0) = false := eqf (by omega)
          have t1 : ((k : Int) == 1) = false := eqf (by omega)
          have t2 : ((k : Int) == 2) = false := eqf (by omega)
          have t3 : ((k : Int) == 3) = false := eqf (by omega)
          have t4 : ((k : Int) == 4) = false := eqf (by omega)
          have t5 : ((k : Int) == 5) = false := eqf (by omega)
          have t6 : ((k : Int) == 6) = false := eqf (by omega)
          have t7 : ((k : Int) == 7) = false := eqf (by omega)
          have t8 : ((k : Int) == 8) = false := eqf (by omega)
          have t9 : ((k : Int) == 9) = false := eqf (by omega)
          have t10 : ((k : Int) == 10) = false := eqf (by omega)
          have t11 : ((k : Int) == 11) = false := eqf (by omega)
          have t12 : ((k : Int) == 12) = false := eqf (by omega)
          have t13 : ((k : Int) == 13) = false := eqf (by omega)
          have t14 : ((k : Int) == 14) = false := eqf (by omega)
          have t15 : ((k : Int) == 15) = false := eqf (by omega)
          have t16 : ((k : Int) == 16) = false := eqf (by omega)
          have t17 : ((k : Int) == 17) = true := eqt (by omega)
          clear hk7
          obtain ⟨cs, q, hcs⟩ := HKN.out.s
          obtain rfl : cs = #[.string ⟨#[97]⟩, .string ⟨#[98]⟩, .string ⟨#[99]⟩, .string ⟨#[100]⟩, .string ⟨#[101]⟩, .string ⟨#[102]⟩] := by apply Array.toList_inj.1; rw [hcs]; rfl
          have z3 := blk_cell q 0 _ rfl
          have f3 := blk_free q 0
          have HQ := Lib.hid q
          clear q hcs
          go_wp2_with fail
          go_meet
          exact ⟨[⟨#[82, 49]⟩, ⟨#[98]⟩, ⟨#[99]⟩, ⟨#[100]⟩, ⟨#[101]⟩, ⟨#[102]⟩], yP, _, HKN.out.sets ((Only.refl (b + 1) V).setCell (p := ⟨b + 1, 0, none⟩) rfl _) ⟨_, blk_set HQ.out 0 _, rfl⟩ rfl (by intro s hs; simp at hs; rcases hs with rfl | rfl | rfl | rfl | rfl | rfl <;> decide)⟩
        · have t0 : ((k : Int) == 0) = false := eqf (by omega)
          have t1 : ((k : Int) == 1) = false := eqf (by omega)
          have t2 : ((k : Int) == 2) = false := eqf (by omega)
          have t3 : ((k : Int) == 3) = false := eqf (by omega)
          have t4 : ((k : Int) == 4) = false := eqf (by omega)
          have t5 : ((k : Int) == 5) = false := eqf (by omega)
          have t6 : ((k : Int) == 6) = false := eqf (by omega)
          have t7 : ((k : Int) == 7) = false := eqf (by omega)
          have t8 : ((k : Int) == 8) = false := eqf (by omega)
          have t9 : ((k : Int) == 9) = false := eqf (by omega)
          have t10 : ((k : Int) == 10) = false := eqf (by omega)
          have t11 : ((k : Int) == 11) = false := eqf (by omega)
          have t12 : ((k : Int) == 12) = false := eqf (by omega)
          have t13 : ((k : Int) == 13) = false := eqf (by omega)
          have t14 : ((k : Int) == 14) = false := eqf (by omega)
          have t15 : ((k : Int) == 15) = false := eqf (by omega)
          have t16 : ((k : Int) == 16) = false := eqf (by omega)
          have t17 : ((k : Int) == 17) = false := eqf (by omega)
          clear hk7
          go_wp2_with fail
          go_meet
          exact ⟨yS, yP, _, HKN.out⟩
      case rest =>
        obtain ⟨S, P, r, hK⟩ := hcut
        clear x1 x2 y0 y1 y2 y3 y4 y5 f1 f2 f3 f4 f5 hl3 HKN HX
        obtain ⟨nm, sg, ⟨a1, c1, l1⟩, ⟨a2, c2, l2⟩, ⟨a3, c3, l3⟩, ⟨a4, c4, l4⟩⟩ := r
        obtain ⟨m1, hm1⟩ : ∃ n, l1.length = n := ⟨_, rfl⟩
        obtain ⟨m2, hm2⟩ : ∃ n, l2.length = n := ⟨_, rfl⟩
        obtain ⟨m3, hm3⟩ : ∃ n, l3.length = n := ⟨_, rfl⟩
        obtain ⟨m4, hm4⟩ : ∃ n, l4.length = n := ⟨_, rfl⟩
        have q3 := hK.rt
        dsimp only at q3
        rw [slv2 hm1, slv2 hm2, slv2 hm3, slv2 hm4] at q3
        have qr := hK.ya 16 _ (by decide) rfl
        have HMM := Lib.hid (And.intro hm1 (And.intro hm2 (And.intro hm3 hm4)))
        have HK := Lib.hid hK
        have HQR := Lib.hid qr
        have x3 := blk_cell hK.lay 3 _ rfl
        have y0 := blk_cell q3 0 _ rfl
        have y1 := blk_cell q3 1 _ rfl
        have y2 := blk_cell q3 2 _ rfl
        have y3 := blk_cell q3 3 _ rfl
        have y4 := blk_cell q3 4 _ rfl
        have y5 := blk_cell q3 5 _ rfl
        have z0 := blk_cell qr 0 _ rfl
        have z1 := blk_cell qr 1 _ rfl
        have z2 := blk_cell qr 2 _ rfl
        have z3 := blk_cell qr 3 _ rfl
        have z4 := blk_cell qr 4 _ rfl
        have z5 := blk_cell qr 5 _ rfl
        have f0 := blk_free qr 0
        have f1 := blk_free qr 1
        have f2 := blk_free qr 2
        have f3 := blk_free qr 3
        have f4 := blk_free qr 4
        have f5 := blk_free qr 5
        clear hK q3 qr hm1 hm2 hm3 hm4
        go_upto_region 46 with fail
        clear x3 y0 y1 y2 y3 y4 y5 z0 z1 z2 z3 z4 z5 f0 f1 f2 f3 f4 f5
        refine name_world05 ?_
        intro W2 hW2
        have ho : Only (b + 16) wc W2 := by rw [hW2]; exact only_set (only_set (only_set (only_set (only_set (only_set (Only.refl (b + 16) wc) 0 _) 1 _) 2 _) 3 _) 4 _) 5 _
        have hqq : W2.heap[b + 16]? = some (.cells (((((((yRv b).setIfInBounds 0 (.string nm)).setIfInBounds 1 (.int .i64 sg)).setIfInBounds 2 (.slice a1 m1 c1)).setIfInBounds 3 (.slice a2 m2 c2)).setIfInBounds 4 (.slice a3 m3 c3)).setIfInBounds 5 (.slice a4 m4 c4)) 25) := by rw [hW2]; exact blk_set (blk_set (blk_set (blk_set (blk_set (blk_set HQR.out 0 _) 1 _) 2 _) 3 _) 4 _) 5 _
        obtain ⟨u1, u2, u3, u4⟩ := HMM.out
        have hf := HK.out.fin ho ⟨_, hqq, kn_row b nm sg a1 a2 a3 a4 c1 c2 c3 c4 m1 m2 m3 m4 l1 l3 l2 l4 u1 u2 u3 u4⟩
        obtain ⟨hL, hR, ql, qr, hbw⟩ := hf
        dsimp only at qr
        rw [slv2 u1, slv2 u2, slv2 u3, slv2 u4] at qr
        have hLV := knL_v (b := b) (r := ⟨nm, sg, ⟨a1, c1, l1⟩, ⟨a2, c2, l2⟩, ⟨a3, c3, l3⟩, ⟨a4, c4, l4⟩⟩) HK.out.sl HK.out.pl
        have KR : Hid (∀ W, Below W2.heap.size W2 W → ∀ n : Int, Calls Try.prog 5 #[.agg #[.slice (some ⟨b + 1, 0, none⟩) 6 6, .slice (some ⟨b + 2, 0, none⟩) 2 2, .slice (some ⟨b + 3, 0, none⟩) 3 3, .slice (some ⟨b + 16, 0, none⟩) 5 5], .int .i64 n] W fun e w' => e = .returned (.bool true) ∧ Below W.heap.size W w') := Lib.hid (fun W hW n => kn_route _ W n _ (hL.below hW) hLV)
        have KL : Hid (∀ W, Below W2.heap.size W2 W → ∀ n : Int, Calls Try.prog 6 #[.agg #[.slice (some ⟨b + 1, 0, none⟩) 6 6, .slice (some ⟨b + 2, 0, none⟩) 2 2, .slice (some ⟨b + 3, 0, none⟩) 3 3, .slice (some ⟨b + 16, 0, none⟩) 5 5], .int .i64 n] W fun e w' => e = .returned (.bool true) ∧ Below W.heap.size W w') := Lib.hid (fun W hW n => kn_less _ W n _ (hL.below hW) hLV)
        have KC : Hid (∀ W, Below W2.heap.size W2 W → Calls Try.prog 4 #[.agg #[.slice (some ⟨b + 1, 0, none⟩) 6 6, .slice (some ⟨b + 2, 0, none⟩) 2 2, .slice (some ⟨b + 3, 0, none⟩) 3 3, .slice (some ⟨b + 16, 0, none⟩) 5 5]] W fun e w' => e = .returned (.bool true) ∧ Below W.heap.size W w') := Lib.hid (fun W hW => kn_check _ W _ (hL.below hW) hLV)
        have KP : Hid (∀ W, Below W2.heap.size W2 W → Calls Try.prog 3 #[.agg #[.string nm, .int .i64 sg, .slice a1 m1 c1, .slice a2 m2 c2, .slice a3 m3 c3, .slice a4 m4 c4]] W fun e w' => e = .returned (.bool true) ∧ Below W.heap.size W w') := Lib.hid (fun W hW => kn_parts nm sg a1 a2 a3 a4 c1 c2 c3 c4 m1 m2 m3 m4 l1 l3 l2 l4 u1 u2 u3 u4 W (hR.below hW))
        have HB2 := Lib.hid hbw
        have HQL := Lib.hid ql
        have HQ3 := Lib.hid qr
        clear hW2 ho hL hR ql qr hbw u1 u2 u3 u4 HK HQR HMM hqq hLV
        go_wp2_with fail
        go_loopg [4] 7 (fun g i wr => ∃ q : Nat, q + g = 7 ∧ i = .int .i64 ((q : Int) - 1) ∧ Below W2.heap.size W2 wr)
        case atStart => exact ⟨0, by omega, rfl, Below.refl _ _⟩
        case round =>
          obtain ⟨q, hq, rfl, hb⟩ := hrel
          obtain ⟨wq, hwq⟩ : ∃ W, W = wr := ⟨_, rfl⟩
          rw [← hwq] at hb ⊢
          clear hwq
          have HBQ := Lib.hid hb
          have HQQ := Lib.hid hq
          have ql := blk_keep hb HQL.out
          have x0 := blk_cell ql 0 _ rfl
          have x1 := blk_cell ql 1 _ rfl
          have x2 := blk_cell ql 2 _ rfl
          have x3 := blk_cell ql 3 _ rfl
          clear hb ql
          by_cases hlt : q < 7
          · have d3 : (q : Int) - 1 < 6 := by omega
            have e5 : wrap64 ((q : Int) - 1 + 1) = (q : Int) := by unfold wrap64; omega
            have E5 := Lib.hid e5
            have HLQ := Lib.hid hlt
            clear hq hlt e5
            go_wp2_with fail
            clear x0 x1 x2 x3
            refine (KR.out _ HBQ.out _).mono ?_
            rintro e w7 ⟨rfl, hb⟩
            have hbq := below_on HBQ.out hb
            have ql := blk_keep hbq HQL.out
            have x0 := blk_cell ql 0 _ rfl
            have x1 := blk_cell ql 1 _ rfl
            have x2 := blk_cell ql 2 _ rfl
            have x3 := blk_cell ql 3 _ rfl
            have HB7 := Lib.hid hbq
            clear hb hbq ql
            go_wp2_with fail
            clear x0 x1 x2 x3
            refine (KL.out _ HB7.out _).mono ?_
            rintro e w8 ⟨rfl, hb⟩
            have HB8 := Lib.hid (below_on HB7.out hb)
            clear hb
            have e5 := E5.out
            go_wp2_with fail
            go_roundg (7 - (q + 1))
            case rel => exact ⟨q + 1, by have := HQQ.out; have := HLQ.out; omega, by first | rfl | go_num | (rw [e5]; congr 1; omega), HB8.out⟩
            case measure => have := HQQ.out; have := HLQ.out; omega
          · have d3 : ¬ (q : Int) - 1 < 6 := by omega
            clear hq hlt
            go_wp2_with fail
            clear x0 x1 x2 x3 d3
            refine (KC.out _ HBQ.out).mono ?_
            rintro e w7 ⟨rfl, hb⟩
            have hbq := below_on HBQ.out hb
            have q3 := blk_keep hbq HQ3.out
            have x0 := blk_cell q3 0 _ rfl
            have x1 := blk_cell q3 1 _ rfl
            have x2 := blk_cell q3 2 _ rfl
            have x3 := blk_cell q3 3 _ rfl
            have x4 := blk_cell q3 4 _ rfl
            have x5 := blk_cell q3 5 _ rfl
            have HB7 := Lib.hid hbq
            clear hb hbq q3
            go_wp2_with fail
            clear x0 x1 x2 x3 x4 x5
            refine (KP.out _ HB7.out).mono ?_
            rintro e w8 ⟨rfl, hb⟩
            have HB8 := Lib.hid (below_on HB2.out (below_on HB7.out hb))
            clear hb
            have e0 := E0.out
            go_wp2_with fail
            go_roundg (24 - (k + 1))
            case rel => exact ⟨k + 1, by have := HKK.out; have := HLT.out; omega, by go_num, HB8.out⟩
            case measure => have := HKK.out; have := HLT.out; omega
    · have hkm : k = 24 := by omega
      have d2 : ¬ (k : Int) < 24 := by omega
      have hz : ∀ W, LayAt W ⟨⟨none, 0, []⟩, ⟨none, 0, []⟩, ⟨none, 0, []⟩, ⟨none, 0, []⟩⟩ := fun W => ⟨sl_none, sl_none, sl_none, sl_none, (fun _ h => by cases h), (fun _ h => by cases h), (fun _ h => by cases h), (fun _ h => by cases h)⟩
      have KC : Hid (∀ W, Calls Try.prog 4 #[.agg #[.slice none 0 0, .slice none 0 0, .slice none 0 0, .slice none 0 0]] W fun e w' => e = .returned (.bool true) ∧ Below W.heap.size W w') := Lib.hid (fun W => topoCheck_is ⟨⟨none, 0, []⟩, ⟨none, 0, []⟩, ⟨none, 0, []⟩, ⟨none, 0, []⟩⟩ W (hz W))
      have KL : Hid (∀ W, Calls Try.prog 6 #[.agg #[.slice none 0 0, .slice none 0 0, .slice none 0 0, .slice none 0 0], .int .i64 0] W fun e w' => e = .returned (.bool true) ∧ Below W.heap.size W w') := Lib.hid (fun W => topoLess_is ⟨⟨none, 0, []⟩, ⟨none, 0, []⟩, ⟨none, 0, []⟩, ⟨none, 0, []⟩⟩ 0 W (hz W))
      have KR : Hid (∀ W, Calls Try.prog 5 #[.agg #[.slice none 0 0, .slice none 0 0, .slice none 0 0, .slice none 0 0], .int .i64 0] W fun e w' => e = .returned (.bool true) ∧ Below W.heap.size W w') := Lib.hid (fun W => topoRoute_is ⟨⟨none, 0, []⟩, ⟨none, 0, []⟩, ⟨none, 0, []⟩, ⟨none, 0, []⟩⟩ 0 W (hz W))
      clear hk hlt hkm hz
      go_wp2_with fail
      refine (KC.out _).mono ?_
      rintro e w1 ⟨rfl, hb⟩
      have HB1 := Lib.hid (below_on HB.out hb)
      clear hb
      go_wp2_with fail
      refine (KL.out _).mono ?_
      rintro e w2 ⟨rfl, hb⟩
      have HB2 := Lib.hid (below_on HB1.out hb)
      clear hb
      go_wp2_with fail
      refine (KR.out _).mono ?_
      rintro e w3 ⟨rfl, hb⟩
      have HB3 := Lib.hid (below_on HB2.out hb)
      clear hb
      go_wp2_with fail
      refine (works_is _).mono ?_
      rintro e w4 ⟨rfl, hb⟩
      have HB4 := Lib.hid (below_on HB3.out hb)
      clear hb
      go_wp2_with fail
      go_ret
      exact ⟨rfl, HB4.out⟩
end Go.Proofs.Ytdkcpejlojdijaa
