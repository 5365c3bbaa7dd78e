/-
 Layer 10: New.
-/
import Derived.Test.YtpohoannggdbjaaIxQ
import Derived.Test.YtpohoannggdbjaaIxM
import Derived.Test.YtpohoannggdbjaaMA
namespace Go.Proofs.Ytpohoannggdbjaa
open Go.RowKit
set_option maxRecDepth 100000
theorem info_line : (Try.prog.info? 80).map (fun i => (i.zero, i.size, i.bytes)) = some (some (.agg #[.int .i64 0, .int .i64 0, .slice none 0 0, .slice none 0 0, .slice none 0 0]), 5, 88) := by kernel_rfl
theorem info_i64 : (Try.prog.info? 3).map (fun i => (i.zero, i.size, i.bytes)) = some (some (.int .i64 0), 1, 8) := by kernel_rfl
theorem wx_grown {X : Nat → Prop} {a b c : World} {row : Option Nat} (h : WX X a b) (hg : b.grownBy c row) (hr : ∀ k, row = some k → a.heap.size ≤ k) : WX X a c :=
 ⟨hg.os.trans h.os, hg.tape.trans h.tape, hg.output.trans h.output, Nat.le_trans h.size hg.size, fun i hi hx => (hg.block i (Nat.lt_of_lt_of_le hi h.size) (fun e => by have := hr i e.symm; omega)).trans (h.block i hi hx)⟩
/-- a row of numbers, of needs, in a slice's value, outside of X -/
def RwV {α : Type} (sz : Nat) (f : α → List Value) (X : Nat → Prop) (W : World) (l : List α) (v : Value) : Prop := ∃ a n c, v = .slice a n c ∧ n = l.length ∧ SlX sz f X W ⟨a, c, l⟩
theorem RwV.below {α : Type} {sz : Nat} {f : α → List Value} {X : Nat → Prop} {W W' : World} {l : List α} {v : Value} (h : RwV sz f X W l v) (hb : Below W.heap.size W W') : RwV sz f X W' l v := by
 obtain ⟨a, n, c, h1, h2, h3⟩ := h
 exact ⟨a, n, c, h1, h2, h3.step (WX.of_below hb)⟩
theorem rwv_new {α : Type} {sz : Nat} {f : α → List Value} {X : Nat → Prop} {W : World} {l : List α} {a : Option Addr} {n c B : Nat} (hn : n = l.length) (hs : SlAt sz f W ⟨a, c, l⟩) (hw : NewRow sz B W a n) (hx : ∀ b, X b → b < B) : RwV sz f X W l (.slice a n c) := by
 refine ⟨a, n, c, rfl, hn, hs, ?_, ?_⟩
 ·rcases hw with h0 | ⟨g, cs, t, h1, h2, h3, _⟩
  ·exact .inl (List.eq_nil_of_length_eq_zero (hn ▸ h0))
  ·exact .inr ⟨g, 0, h1, blk_lt h3, fun e => by have := hx g e; omega⟩
 ·rcases hw with h0 | ⟨g, cs, t, h1, h2, h3, _⟩
  ·exact .inl (List.eq_nil_of_length_eq_zero (hn ▸ h0))
  ·exact .inr ⟨g, 0, h1, fun i => blk_free h3 i⟩
/-- cells that are a line's -/
def LnQ (X : Nat → Prop) (W : World) (R : Rw) (C : List Value) : Prop := ∃ y : Ln, C = lnC y ∧ y.rw = R ∧ LnX X W y
theorem LnQ.below {X : Nat → Prop} {W W' : World} {R : Rw} {C : List Value} (h : LnQ X W R C) (hb : Below W.heap.size W W') : LnQ X W' R C := by
 obtain ⟨y, h1, h2, h3⟩ := h
 exact ⟨y, h1, h2, h3.step (WX.of_below hb)⟩
theorem lnq_mk {X : Nat → Prop} {W : World} {p q : Int} {t : List Int} {d : List (Int × Bool)} {k : List Int} {a1 a2 a3 : Option Addr} {n1 n2 n3 c1 c2 c3 : Nat} (e1 : n1 = t.length) (e2 : n2 = d.length) (e3 : n3 = k.length) (h1 : SlX 1 intC X W ⟨a1, c1, t⟩) (h2 : SlX 2 ndC X W ⟨a2, c2, d⟩) (h3 : SlX 1 intC X W ⟨a3, c3, k⟩) :
 LnQ X W ⟨p, q, t, d, k⟩ [.int .i64 p, .int .i64 q, .slice a1 n1 c1, .slice a2 n2 c2, .slice a3 n3 c3] :=
 ⟨⟨p, q, ⟨a1, c1, t⟩, ⟨a2, c2, d⟩, ⟨a3, c3, k⟩⟩, by rw [e1, e2, e3]; rfl, rfl, h1, h2, h3⟩
theorem ln_one (y : Ln) : ∀ u ∈ lnC y, u.oneCell' = true := by
 intro u h; simp [lnC, Sl.v] at h
 rcases h with rfl | rfl | rfl | rfl | rfl <;> rfl
theorem pw_32 (k : Nat) : withBit (pw k - 1) k = pw (k + 1) - 1 := by
 rw [withBit_or]
 apply Nat.eq_of_testBit_eq
 intro i
 show ((2 ^ k - 1) ||| 2 ^ k).testBit i = (2 ^ (k + 1) - 1).testBit i
 rw [Nat.testBit_or, Nat.testBit_two_pow_sub_one, Nat.testBit_two_pow, Nat.testBit_two_pow_sub_one]
 by_cases h1 : i < k <;> by_cases h2 : k = i <;> simp [h1, h2] <;> omega
theorem mach_end {X : Nat → Prop} {w' : World} {m : Nat} {L : Lay} {vr vl : Value} {n2 : Nat} {s : Int} {lns : List Ln} {P : Nat}
 (hb : w'.heap[m]? = some (.cells #[vr, vl, .int .i64 s, .int .u32 (P : Int)] 75)) (ho : ¬ X m)
 (h1 : ∃ B, w'.ownsRow B 80 5 vr lns.length (lns.flatMap lnC) ∧ ∀ b, X b → b < B) (h2 : ∃ B, w'.ownsRow B 3 1 vl n2 ((tbL L).li.flatMap intC) ∧ ∀ b, X b → b < B) (hn2 : (tbL L).li.length = n2)
 (h3 : lns.map Ln.rw = (tbL L).rw) (h4 : ∀ x ∈ lns, LnX X w' x) : ∃ M : Mc, MachX X w' m M ∧ M.tb = tbL L ∧ M.pt = P := by
 obtain ⟨B1, o1, x1⟩ := h1
 obtain ⟨B2, o2, x2⟩ := h2
 obtain ⟨a1, c1, rfl, s1⟩ := own_slx (f := lnC) (l := lns) (fun _ => rfl) rfl o1 x1
 obtain ⟨a2, c2, rfl, s2⟩ := own_slx (f := intC) (l := (tbL L).li) (fun _ => rfl) hn2 o2 x2
 refine ⟨⟨⟨a1, c1, lns⟩, ⟨a2, c2, (tbL L).li⟩, s, P⟩, ⟨?_, ho, s1, s2, h4⟩, ?_, rfl⟩
 ·rw [hb, ← hn2]; rfl
 ·unfold Mc.tb
  show (⟨lns.map Ln.rw, (tbL L).li⟩ : Tb) = _
  rw [h3]
attribute [local irreducible] Sl.v hasBit pw withBit woBit cyL stL stV tmL freeS ndBad maySet ptL setS mayCan canS canD nedS flipB mayMov movS comG relS rouS proS tidyS comsG rousS prosS nextG outS lnOk rightK rgtS eqS Mc.tb upd mayS checkS sideN
attribute [local irreducible] tbL rwL secOf cofL RwV LnQ
set_option maxHeartbeats 8000000 in
theorem new_no (L : Lay) (c : Int) (w : World) (hL : LayAt w L) (hc : (checkS L).1 = c) (h0 : ¬ c = 0) :
 Calls Try.prog 10 #[.agg #[L.se.v, L.po.v, L.sg.v, L.rt.v]] w fun e w' => e = .returned (.tuple #[.pointer none, .int .i64 c]) ∧ Below w.heap.size w w' := by
 have HC := Lib.hid hc
 have hcn : (c != 0) = true := by rw [bne_iff_ne]; exact h0
 clear hc
 have HLW := Lib.hid hL
 obtain ⟨n1, hn1⟩ : ∃ n, L.se.l.length = n := ⟨_, rfl⟩
 obtain ⟨n2, hn2⟩ : ∃ n, L.po.l.length = n := ⟨_, rfl⟩
 obtain ⟨n3, hn3⟩ : ∃ n, L.sg.l.length = n := ⟨_, rfl⟩
 obtain ⟨n4, hn4⟩ : ∃ n, L.rt.l.length = n := ⟨_, rfl⟩
 have HCH : Hid (∀ W, Below w.heap.size w W → Calls Try.prog 13 #[.agg #[L.se.v, L.po.v, L.sg.v, L.rt.v]] W fun e w' => e = .returned (.tuple #[.int .i64 c, .int .i64 (checkS L).2]) ∧ Below W.heap.size W w') := Lib.hid (fun W hW => HC.out ▸ (check_is L W (hL.below hW)).mono (fun _ _ h => ⟨h.1, h.2⟩))
 obtain ⟨c2, hc2⟩ : ∃ c, (checkS L).2 = c := ⟨_, rfl⟩
 rw [hc2] at HCH
 have HN1 := Lib.hid hn1
 have HN2 := Lib.hid hn2
 have HN3 := Lib.hid hn3
 have HN4 := Lib.hid hn4
 rw [slv hn1, slv hn2, slv hn3, slv hn4] at HCH ⊢
 clear hn1 hn2 hn3 hn4 hL hc2
 go_enter Try.func10, Try.ntmps10
 go_upto_region 1 with fail
 refine name_last (os := [.cells #[.slice L.se.a n1 L.se.c, .slice L.po.a n2 L.po.c, .slice L.sg.a n3 L.sg.c, .slice L.rt.a n4 L.rt.c] 27]) (w0 := w) rfl ?_
 intro W hat hbw
 obtain ⟨gl, hgl⟩ : ∃ g, g = w.heap.size := ⟨_, rfl⟩
 have q0 := hat 0 _ rfl
 rw [Nat.add_zero, ← hgl] at q0
 rw [← hgl]
 have HQL := Lib.hid q0
 have HB0 := Lib.hid hbw
 clear hat hbw q0 hgl
 obtain ⟨l0, l1, l2, l3⟩ := k_box HQL.out
 go_wp2_with fail
 refine (HCH.out _ HB0.out).mono ?_
 rintro e w1 ⟨rfl, hb⟩
 have HB1 := Lib.hid (below_on HB0.out hb)
 have HQL1 := Lib.hid (blk_keep hb HQL.out)
 clear hb l0 l1 l2 l3 HQL HB0 HCH
 go_wp2_with fail
 go_ret2
 exact ⟨rfl, HB1.out⟩

set_option maxHeartbeats 8000000 in
theorem new_is (L : Lay) (w : World) (hL : LayAt w L) (hc : (checkS L).1 = 0) :
 Calls Try.prog 10 #[.agg #[L.se.v, L.po.v, L.sg.v, L.rt.v]] w fun e w' => ∃ m M, e = .returned (.tuple #[.pointer (some ⟨m, 0, none⟩), .int .i64 0]) ∧ MachX (fun b => b < w.heap.size) w' m M ∧ M.tb = tbL L ∧ M.pt = pw L.po.l.length - 1 ∧ Below w.heap.size w w' := by
 obtain ⟨c, hc0⟩ : ∃ c : Int, (0 : Int) = c := ⟨_, rfl⟩
 have HC : Hid ((checkS L).1 = c) := Lib.hid (hc0 ▸ hc)
 have HS4 : Hid (L.rt.l.length ≤ 64) := Lib.hid (mayS_small (cs_zero hc)).2.2.2
 have HS2 : Hid (L.po.l.length ≤ 32) := Lib.hid (mayS_small (cs_zero hc)).2.1
 clear hc
 have HLW := Lib.hid hL
 obtain ⟨n1, hn1⟩ : ∃ n, L.se.l.length = n := ⟨_, rfl⟩
 obtain ⟨n2, hn2⟩ : ∃ n, L.po.l.length = n := ⟨_, rfl⟩
 obtain ⟨n3, hn3⟩ : ∃ n, L.sg.l.length = n := ⟨_, rfl⟩
 obtain ⟨n4, hn4⟩ : ∃ n, L.rt.l.length = n := ⟨_, rfl⟩
 have HCH : Hid (∀ W, Below w.heap.size w W → Calls Try.prog 13 #[.agg #[L.se.v, L.po.v, L.sg.v, L.rt.v]] W fun e w' => e = .returned (.tuple #[.int .i64 c, .int .i64 (checkS L).2]) ∧ Below W.heap.size W w') := Lib.hid (fun W hW => HC.out ▸ (check_is L W (hL.below hW)).mono (fun _ _ h => ⟨h.1, h.2⟩))
 obtain ⟨c2, hc2⟩ : ∃ c, (checkS L).2 = c := ⟨_, rfl⟩
 rw [hc2] at HCH
 have HN1 := Lib.hid hn1
 have HN2 := Lib.hid hn2
 have HN3 := Lib.hid hn3
 have HN4 := Lib.hid hn4
 rw [slv hn1, slv hn2, slv hn3, slv hn4] at HCH ⊢
 clear hn1 hn2 hn3 hn4 hL hc2
 go_enter Try.func10, Try.ntmps10
 go_upto_region 1 with fail
 refine name_last (os := [.cells #[.slice L.se.a n1 L.se.c, .slice L.po.a n2 L.po.c, .slice L.sg.a n3 L.sg.c, .slice L.rt.a n4 L.rt.c] 27]) (w0 := w) rfl ?_
 intro W hat hbw
 obtain ⟨gl, hgl⟩ : ∃ g, g = w.heap.size := ⟨_, rfl⟩
 have q0 := hat 0 _ rfl
 rw [Nat.add_zero, ← hgl] at q0
 rw [← hgl]
 have HQL := Lib.hid q0
 have HB0 := Lib.hid hbw
 clear hat hbw q0 hgl
 obtain ⟨l0, l1, l2, l3⟩ := k_box HQL.out
 go_wp2_with fail
 refine (HCH.out _ HB0.out).mono ?_
 rintro e w1 ⟨rfl, hb⟩
 have HB1 := Lib.hid (below_on HB0.out hb)
 have HQL1 := Lib.hid (blk_keep hb HQL.out)
 clear hb l0 l1 l2 l3 HQL HB0 HCH
 subst hc0
 rw [HN4.out] at HS4
 rw [HN2.out] at HS2
 have l0 := blk_cell HQL1.out 0 _ rfl
 go_upto_region 5 with fail
 have hbn := below1 w1 (.cells #[.slice none 0 0, .slice none 0 0, .int .i64 (n1 : Int), .int .u32 0] 75)
 have hqn := alloc1 w1 (.cells #[.slice none 0 0, .slice none 0 0, .int .i64 (n1 : Int), .int .u32 0] 75) (Below.refl _ _)
 obtain ⟨V6, hV6⟩ : ∃ V, V = w1.alloc (.cells #[.slice none 0 0, .slice none 0 0, .int .i64 (n1 : Int), .int .u32 0] 75) := ⟨_, rfl⟩
 rw [← hV6] at hbn hqn ⊢
 obtain ⟨g6, hg6⟩ : ∃ g, g = w1.heap.size := ⟨_, rfl⟩
 rw [← hg6] at hqn ⊢
 have HB6 := Lib.hid hbn
 have HQ6 : Hid (V6.heap[g6]? = some (.cells #[.slice none 0 0, .slice none 0 0, .int .i64 (n1 : Int), .int .u32 ((0 : Nat) : Int)] 75)) := Lib.hid hqn
 have HG6 : Hid (w1.heap.size ≤ g6) := Lib.hid (by rw [hg6]; exact Nat.le_refl _)
 have HGL : Hid (w.heap.size ≤ g6) := Lib.hid (Nat.le_trans HB1.out.size HG6.out)
 have HQL6 := Lib.hid (blk_keep hbn HQL1.out)
 clear hbn hqn hV6 hg6 l0
 have l3 := blk_cell HQL6.out 3 _ rfl
 go_upto_region 6 with fail
 clear l3
 go_loopg [27] n4 (fun g v wr => ∃ (i : Nat) (vr : Value) (lns : List Ln), i + g = n4 ∧ v = .int .i64 (i : Int) ∧ wr.heap[g6]? = some (.cells #[vr, .slice none 0 0, .int .i64 (n1 : Int), .int .u32 ((0 : Nat) : Int)] 75) ∧ wr.ownsRow (g6 + 1) 80 5 vr lns.length (lns.flatMap lnC) ∧ lns.map Ln.rw = (tbL L).rw.take i ∧ (∀ y ∈ lns, LnX (fun b => b = g6 ∨ vr.ownBlock = some b ∨ b < w.heap.size) wr y) ∧ Below w1.heap.size w1 wr)
 case atStart => exact ⟨0, .slice none 0 0, [], by omega, rfl, HQ6.out, World.ownsRow_nil _ _ _ _, by rw [List.take_zero]; rfl, fun _ h => (nomatch h), HB6.out⟩
 case round =>
  obtain ⟨i, vr, lns, hi, rfl, hq, ho, hrw, hlns, hbw⟩ := hrel
  have HI := Lib.hid hi
  have HQM := Lib.hid hq
  have HO := Lib.hid ho
  have HRW := Lib.hid hrw
  have HLN := Lib.hid hlns
  have HB := Lib.hid hbw
  have HOB : Hid (∀ k, vr.ownBlock = some k → g6 < k ∧ k < wr.heap.size) := Lib.hid (fun k hk => by have := ho.lt _ hk; omega)
  clear hi hq ho hrw hlns hbw HQ6 HB6 HQL6
  by_cases hlt : i < n4
  ·skip
   have d1 : (0 : Int) ≤ i := by omega
   have d2 : (i : Int) < n4 := by omega
   have e1 := k_succ hlt (Nat.le_trans HS4.out (by decide))
   have HLT := Lib.hid hlt
   rcases HLW.out.rt.row with hnil | ⟨xb, off, hxb, hc0⟩
   ·have := HN4.out; rw [hnil] at this; simp at this; omega
   have hc := fun i c hi j v hv => cell_later (below_on HB1.out HB.out) (hc0 i c hi j v hv)
   obtain ⟨x, hyx⟩ : ∃ y, L.rt.l[i]? = some y := ⟨_, List.getElem?_eq_getElem (by rw [HN4.out]; exact hlt)⟩
   have z0 := hc i _ hyx 0 _ rfl
   have z1 := hc i _ hyx 1 _ rfl
   have z2 := hc i _ hyx 2 _ rfl
   have z3 := hc i _ hyx 3 _ rfl
   have z4 := hc i _ hyx 4 _ rfl
   have z5 := hc i _ hyx 5 _ rfl
   rw [Nat.add_zero] at z0
   obtain ⟨p1, hp1⟩ : ∃ n, x.pa.l.length = n := ⟨_, rfl⟩
   obtain ⟨p2, hp2⟩ : ∃ n, x.po.l.length = n := ⟨_, rfl⟩
   obtain ⟨p3, hp3⟩ : ∃ n, x.ov.l.length = n := ⟨_, rfl⟩
   obtain ⟨p4, hp4⟩ : ∃ n, x.fl.l.length = n := ⟨_, rfl⟩
   rw [slv hp1] at z2
   rw [slv hp2] at z3
   rw [slv hp3] at z4
   rw [slv hp4] at z5
   have HZX := Lib.hid (And.intro z0 (And.intro z1 (And.intro z2 (And.intro z3 (And.intro z4 z5)))))
   clear z0 z1 z2 z3 z4 z5
   obtain ⟨X, hX⟩ : ∃ x, L.rt.a = x := ⟨_, rfl⟩
   have HXX := Lib.hid hX
   rw [hX] at hxb ⊢
   subst hxb
   have hxm := List.mem_of_getElem? hyx
   have HYX := Lib.hid hyx
   have HXM := Lib.hid hxm
   have HPP := Lib.hid (And.intro hp1 (And.intro hp2 (And.intro hp3 hp4)))
   obtain ⟨z0, z1, z2, z3, z4, z5⟩ := HZX.out
   clear hc hc0 hyx hxm hp1 hp2 hp3 hp4 hlt hX
   go_upto_region 8 with fail
   have hbn := below1 wr (.cells #[.string x.nm, .int .i64 x.sg, .slice x.pa.a p1 x.pa.c, .slice x.po.a p2 x.po.c, .slice x.ov.a p3 x.ov.c, .slice x.fl.a p4 x.fl.c] 58)
   have hqn := alloc1 wr (.cells #[.string x.nm, .int .i64 x.sg, .slice x.pa.a p1 x.pa.c, .slice x.po.a p2 x.po.c, .slice x.ov.a p3 x.ov.c, .slice x.fl.a p4 x.fl.c] 58) (Below.refl _ _)
   obtain ⟨V8, hV8⟩ : ∃ V, V = wr.alloc (.cells #[.string x.nm, .int .i64 x.sg, .slice x.pa.a p1 x.pa.c, .slice x.po.a p2 x.po.c, .slice x.ov.a p3 x.ov.c, .slice x.fl.a p4 x.fl.c] 58) := ⟨_, rfl⟩
   rw [← hV8] at hbn hqn ⊢
   obtain ⟨g8, hg8⟩ : ∃ g, g = wr.heap.size := ⟨_, rfl⟩
   rw [← hg8] at hqn ⊢
   have HB8 := Lib.hid (below_on HB.out hbn)
   have HQ8 := Lib.hid hqn
   have HO8 := Lib.hid (own_below hbn HO.out)
   have HM8 := Lib.hid (blk_keep hbn HQM.out)
   have HQL8 := Lib.hid (blk_keep HB8.out HQL1.out)
   have HG8 : Hid (wr.heap.size ≤ g8 ∧ g8 < V8.heap.size ∧ wr.heap.size ≤ V8.heap.size) := Lib.hid (by have := blk_lt hqn; have := hbn.size; omega)
   have HM8L : Hid (g6 < wr.heap.size) := Lib.hid (blk_lt HQM.out)
   have HLN8 : Hid (∀ y ∈ lns, LnX (fun b => b = g6 ∨ vr.ownBlock = some b ∨ b < w.heap.size) V8 y) := Lib.hid (fun y hy => (HLN.out y hy).step (WX.of_below hbn))
   clear hbn hqn hV8 hg8 z0 z1 z2 z3 z4 z5 HQM HO HLN
   obtain ⟨q0, qs, hpa⟩ : ∃ a l, x.pa.l = a :: l := by
    cases h : x.pa.l with
    | nil => exact absurd h (t_pa (t_formed HC.out x HXM.out))
    | cons a l => exact ⟨a, l, rfl⟩
   have hm := cs_zero HC.out
   have ok := mayS_rt hm x HXM.out
   obtain ⟨sk, hsk⟩ : ∃ k : Nat, x.sg = k := ⟨x.sg.toNat, by have := ok.s0; omega⟩
   have hsl : sk < L.sg.l.length := by have := ok.s1; omega
   obtain ⟨sp, hsp⟩ : ∃ p, L.sg.l[sk]? = some p := ⟨_, List.getElem?_eq_getElem hsl⟩
   have hxw : RtAt V8 x := ((HLW.out.rn x HXM.out).below HB1.out).below HB8.out
   have hwb : Below w.heap.size w V8 := below_on HB1.out HB8.out
   have HF : Hid (rwL L i x = ⟨q0, sp.2, x.tr, x.nd, cofL L (i : Int)⟩) := Lib.hid (by unfold rwL; rw [hpa, hsk, secOf_at hsp]; rfl)
   have HSL : Hid (sk < n3) := Lib.hid (by rw [← HN3.out]; exact hsl)
   obtain ⟨PA, hPA⟩ : ∃ a, x.pa.a = a := ⟨_, rfl⟩
   have hr1 := hxw.pa.row
   rw [hPA, hpa] at hr1
   rcases hr1 with hnil | ⟨pb, po, hpb, hpc⟩
   ·cases hnil
   subst hpb
   have HP0 : Hid (V8.cell? ⟨pb, po, none⟩ = some (.int .i64 q0)) := Lib.hid (by have := hpc 0 q0 rfl 0 _ rfl; simpa using this)
   have HPL : Hid (0 < p1) := Lib.hid (by rw [← HPP.out.1, hpa]; simp)
   obtain ⟨SA, hSA⟩ : ∃ a, L.sg.a = a := ⟨_, rfl⟩
   have hr2 := HLW.out.sg.row
   rw [hSA] at hr2
   rcases hr2 with hnil | ⟨sb, so, hsb, hsc⟩
   ·rw [hnil] at hsp; cases hsp
   subst hsb
   have HS1 : Hid (V8.cell? ⟨sb, so + sk * 2 + 1, none⟩ = some (.int .i64 sp.2)) := Lib.hid (cell_later hwb (hsc sk sp hsp 1 _ rfl))
   have HQG : Hid (V8.cell? ⟨gl, 2, none⟩ = some (.slice (some ⟨sb, so, none⟩) n3 L.sg.c)) := Lib.hid (by rw [← hSA]; exact blk_cell HQL8.out 2 _ rfl)
   have HQP : Hid (V8.cell? ⟨g8, 2, none⟩ = some (.slice (some ⟨pb, po, none⟩) p1 x.pa.c)) := Lib.hid (by rw [← hPA]; exact blk_cell HQ8.out 2 _ rfl)
   have HQS : Hid (V8.cell? ⟨g8, 1, none⟩ = some (.int .i64 (sk : Int))) := Lib.hid (by rw [← hsk]; exact blk_cell HQ8.out 1 _ rfl)
   have HTRK : Hid (∀ W, Below V8.heap.size V8 W → Calls Try.prog 14 #[.agg #[.string x.nm, .int .i64 x.sg, .slice x.pa.a p1 x.pa.c, .slice x.po.a p2 x.po.c, .slice x.ov.a p3 x.ov.c, .slice x.fl.a p4 x.fl.c]] W fun e w' => ∃ v, e = .returned v ∧ RwV 1 intC (fun b => b < V8.heap.size) w' x.tr v ∧ Below W.heap.size W w') := Lib.hid (fun W hW => by
    have h := track_own x W (hxw.below hW) (by have := ok.pa; have := ok.ov; omega)
    rw [slv HPP.out.1, slv HPP.out.2.1, slv HPP.out.2.2.1, slv HPP.out.2.2.2] at h
    refine h.mono (fun _ _ ⟨a, n, c, h1, h2, h3, h4, h5⟩ => ⟨_, h1, rwv_new ?_ (by unfold Rt.tr; exact h3) h5 (fun b hb => Nat.lt_of_lt_of_le hb hW.size), h4⟩)
    rw [h2]; unfold Rt.tr; rw [List.length_append])
   have HNDS : Hid (∀ W, Below V8.heap.size V8 W → Calls Try.prog 15 #[.agg #[.string x.nm, .int .i64 x.sg, .slice x.pa.a p1 x.pa.c, .slice x.po.a p2 x.po.c, .slice x.ov.a p3 x.ov.c, .slice x.fl.a p4 x.fl.c]] W fun e w' => ∃ v, e = .returned v ∧ RwV 2 ndC (fun b => b < V8.heap.size) w' x.nd v ∧ Below W.heap.size W w') := Lib.hid (fun W hW => by
    have h := needs_own x W (hxw.below hW) (by have := ok.po; have := ok.fl; omega)
    rw [slv HPP.out.1, slv HPP.out.2.1, slv HPP.out.2.2.1, slv HPP.out.2.2.2] at h
    refine h.mono (fun _ _ ⟨a, n, c, h1, h2, h3, h4, h5⟩ => ⟨_, h1, rwv_new ?_ (by unfold Rt.nd; exact h3) h5 (fun b hb => Nat.lt_of_lt_of_le hb hW.size), h4⟩)
    rw [h2]; unfold Rt.nd; rw [List.length_append])
   have HCOF : Hid (∀ W, Below V8.heap.size V8 W → Calls Try.prog 16 #[.agg #[.slice L.se.a n1 L.se.c, .slice L.po.a n2 L.po.c, .slice L.sg.a n3 L.sg.c, .slice L.rt.a n4 L.rt.c], .int .i64 (i : Int)] W fun e w' => ∃ v, e = .returned v ∧ RwV 1 intC (fun b => b < V8.heap.size) w' (cofL L (i : Int)) v ∧ Below W.heap.size W w') := Lib.hid (fun W hW => by
    have h := of_own L (i : Int) W (HLW.out.below (below_on hwb hW))
    rw [slv HN1.out, slv HN2.out, slv HN3.out, slv HN4.out] at h
    exact h.mono (fun _ _ ⟨a, n, c, h1, h2, h3, h4, h5⟩ => ⟨_, h1, rwv_new h2 h3 h5 (fun b hb => Nat.lt_of_lt_of_le hb hW.size), h4⟩))
   clear hpa ok hm hsk hsl hsp hxw hwb hPA hpc hSA hsc
   refine wp_region_rel1 (by kernel_rfl) [25, 26, 27, 28] 31 [1, 2, 3, 4, 5, 6, 7, 8, 9, 10, 11, 12, 13, 14, 15, 16, 17, 18, 19, 20, 21, 22, 23, 24] [32, 33, 34, 35, 36, 37, 38, 39, 40, 41, 42, 43, 44, 45, 46, 47, 48, 49, 50, 51, 52, 53, 54, 55, 56] #[true, true, true, true, true, true, true, true, true, true, true, true, true, true, true, true, true, true, true, true, true, true, true, true, true, false, false, false, false] 4 [(fun v _ => v = .pointer (some ⟨g6, 0, none⟩)), (fun v _ => v = .pointer (some ⟨g6, 0, none⟩)), (fun v _ => v = .pointer (some ⟨g6, 0, none⟩)), (fun v _ => v = .pointer (some ⟨g6, 0, none⟩)), (fun v _ => v = vr), (fun v _ => v = .pointer (some ⟨g8, 2, none⟩)), (fun v _ => v = .slice (some ⟨pb, po, none⟩) p1 x.pa.c), (fun v _ => v = .pointer (some ⟨pb, po, none⟩)), (fun v _ => v = .int .i64 q0), (fun v _ => v = .pointer (some ⟨gl, 2, none⟩)), (fun v _ => v = .slice (some ⟨sb, so, none⟩) n3 L.sg.c), (fun v _ => v = .pointer (some ⟨g8, 1, none⟩)), (fun v _ => v = .int .i64 (sk : Int)), (fun v _ => v = .pointer (some ⟨sb, so + sk * 2, none⟩)), (fun v _ => v = .pointer (some ⟨sb, so + sk * 2 + 1, none⟩)), (fun v _ => v = .int .i64 sp.2), (fun v _ => v = .agg #[.string x.nm, .int .i64 x.sg, .slice x.pa.a p1 x.pa.c, .slice x.po.a p2 x.po.c, .slice x.ov.a p3 x.ov.c, .slice x.fl.a p4 x.fl.c]), (fun v V => RwV 1 intC (fun b => b < V8.heap.size) V x.tr v), (fun v _ => v = .agg #[.string x.nm, .int .i64 x.sg, .slice x.pa.a p1 x.pa.c, .slice x.po.a p2 x.po.c, .slice x.ov.a p3 x.ov.c, .slice x.fl.a p4 x.fl.c]), (fun v V => RwV 2 ndC (fun b => b < V8.heap.size) V x.nd v), (fun v _ => v = .agg #[.slice L.se.a n1 L.se.c, .slice L.po.a n2 L.po.c, .slice L.sg.a n3 L.sg.c, .slice L.rt.a n4 L.rt.c]), (fun v _ => v = .int .i64 (i : Int)), (fun v V => RwV 1 intC (fun b => b < V8.heap.size) V (cofL L (i : Int)) v), (fun v V => ∃ a1 m1 c1 a2 m2 c2 a3 m3 c3, v = .agg #[.int .i64 q0, .int .i64 sp.2, .slice a1 m1 c1, .slice a2 m2 c2, .slice a3 m3 c3] ∧ LnQ (fun b => b < V8.heap.size) V ⟨q0, sp.2, x.tr, x.nd, cofL L (i : Int)⟩ [.int .i64 q0, .int .i64 sp.2, .slice a1 m1 c1, .slice a2 m2 c2, .slice a3 m3 c3]), (fun v V => ∃ g C, v = .slice (some ⟨g, 0, none⟩) 1 1 ∧ V.heap[g]? = some (.cells C 80) ∧ LnQ (fun b => b < V8.heap.size) V ⟨q0, sp.2, x.tr, x.nd, cofL L (i : Int)⟩ C.toList), (fun _ _ => True), (fun _ _ => True), (fun _ _ => True), (fun _ _ => True)] 0 32 (.pointer (some ⟨g6, 0, none⟩)) (ou := ⟨some 32, _, _, _, _, _⟩) rfl rfl rfl (by kernel_rfl) (by kernel_rfl) (by kernel_rfl) (by kernel_rfl) (fun _ _ _ h => h) (Or.inl ⟨by rfl, fun w => by go_simp⟩) (by kernel_rfl) (fun _ => rfl) (by kernel_rfl) (by kernel_rfl) (by kernel_rfl) (by kernel_rfl) (by kernel_rfl) rfl (by kernel_rfl) rfl ?_ ?_ ?_
   ·exact ⟨stays_is _, stays_is _, stays_is _, stays_is _, stays_is _, stays_is _, stays_is _, stays_is _, stays_is _, stays_is _, stays_is _, stays_is _, stays_is _, stays_is _, stays_is _, stays_is _, stays_is _, (fun v W W2 h hb => h.below hb), stays_is _, (fun v W W2 h hb => h.below hb), stays_is _, stays_is _, (fun v W W2 h hb => h.below hb), (fun v W W2 h hb => by obtain ⟨a1, m1, c1, a2, m2, c2, a3, m3, c3, h1, h2⟩ := h; exact ⟨a1, m1, c1, a2, m2, c2, a3, m3, c3, h1, h2.below hb⟩), (fun v W W2 h hb => by obtain ⟨g, C, h1, h2, h3⟩ := h; exact ⟨g, C, h1, blk_keep hb h2, h3.below hb⟩), stays_true, stays_true, stays_true, stays_true, trivial⟩
   ·refine ⟨?_, ?_, ?_, ?_, ?_, ?_, ?_, ?_, ?_, ?_, ?_, ?_, ?_, ?_, ?_, ?_, ?_, ?_, ?_, ?_, ?_, ?_, ?_, ?_, trivial⟩
    ·refine relOb_mk (o := ⟨some 33, _, _, _, _, _⟩) rfl (fun r V hc hf hg hs hb hd => ?_)
     have x6 : r (.tmp 6) = .pointer (some ⟨g6, 0, none⟩) := hs 6 (by kernel_rfl)
     clear hs hd hg
     go_simp
     exact ⟨Below.refl _ _, rfl⟩
    ·refine relOb_mk (o := ⟨some 34, _, _, _, _, _⟩) rfl (fun r V hc hf hg hs hb hd => ?_)
     have h1 : r (.tmp 33) = .pointer (some ⟨g6, 0, none⟩) := hd 1 33 rfl (by kernel_rfl)
     clear hs hd hg
     go_simp
     exact ⟨Below.refl _ _, rfl⟩
    ·refine relOb_mk (o := ⟨some 35, _, _, _, _, _⟩) rfl (fun r V hc hf hg hs hb hd => ?_)
     have h2 : r (.tmp 34) = .pointer (some ⟨g6, 0, none⟩) := hd 2 34 rfl (by kernel_rfl)
     clear hs hd hg
     go_simp
     exact ⟨Below.refl _ _, rfl⟩
    ·refine relOb_mk (o := ⟨some 36, _, _, _, _, _⟩) rfl (fun r V hc hf hg hs hb hd => ?_)
     have h3 : r (.tmp 35) = .pointer (some ⟨g6, 0, none⟩) := hd 3 35 rfl (by kernel_rfl)
     clear hs hd hg
     have l := blk_cell (blk_keep hb HM8.out) 0 _ rfl
     go_simp
     exact ⟨Below.refl _ _, rfl⟩
    ·refine relOb_mk (o := ⟨some 37, _, _, _, _, _⟩) rfl (fun r V hc hf hg hs hb hd => ?_)
     have x8 : r (.tmp 8) = .pointer (some ⟨g8, 0, none⟩) := hs 8 (by kernel_rfl)
     clear hs hd hg
     go_simp
     exact ⟨Below.refl _ _, rfl⟩
    ·refine relOb_mk (o := ⟨some 38, _, _, _, _, _⟩) rfl (fun r V hc hf hg hs hb hd => ?_)
     have h5 : r (.tmp 37) = .pointer (some ⟨g8, 2, none⟩) := hd 5 37 rfl (by kernel_rfl)
     clear hs hd hg
     have l := cell_later hb HQP.out
     go_simp
     exact ⟨Below.refl _ _, rfl⟩
    ·refine relOb_mk (o := ⟨some 39, _, _, _, _, _⟩) rfl (fun r V hc hf hg hs hb hd => ?_)
     have h6 : r (.tmp 38) = .slice (some ⟨pb, po, none⟩) p1 x.pa.c := hd 6 38 rfl (by kernel_rfl)
     clear hs hd hg
     have hl := HPL.out
     go_simp
     exact ⟨Below.refl _ _, rfl⟩
    ·refine relOb_mk (o := ⟨some 40, _, _, _, _, _⟩) rfl (fun r V hc hf hg hs hb hd => ?_)
     have h7 : r (.tmp 39) = .pointer (some ⟨pb, po, none⟩) := hd 7 39 rfl (by kernel_rfl)
     clear hs hd hg
     have l := cell_later hb HP0.out
     go_simp
     exact ⟨Below.refl _ _, rfl⟩
    ·refine relOb_mk (o := ⟨some 41, _, _, _, _, _⟩) rfl (fun r V hc hf hg hs hb hd => ?_)
     have x1 : r (.tmp 1) = .pointer (some ⟨gl, 0, none⟩) := hs 1 (by kernel_rfl)
     clear hs hd hg
     go_simp
     exact ⟨Below.refl _ _, rfl⟩
    ·refine relOb_mk (o := ⟨some 42, _, _, _, _, _⟩) rfl (fun r V hc hf hg hs hb hd => ?_)
     have h9 : r (.tmp 41) = .pointer (some ⟨gl, 2, none⟩) := hd 9 41 rfl (by kernel_rfl)
     clear hs hd hg
     have l := cell_later hb HQG.out
     go_simp
     exact ⟨Below.refl _ _, rfl⟩
    ·refine relOb_mk (o := ⟨some 43, _, _, _, _, _⟩) rfl (fun r V hc hf hg hs hb hd => ?_)
     have x8 : r (.tmp 8) = .pointer (some ⟨g8, 0, none⟩) := hs 8 (by kernel_rfl)
     clear hs hd hg
     go_simp
     exact ⟨Below.refl _ _, rfl⟩
    ·refine relOb_mk (o := ⟨some 44, _, _, _, _, _⟩) rfl (fun r V hc hf hg hs hb hd => ?_)
     have h11 : r (.tmp 43) = .pointer (some ⟨g8, 1, none⟩) := hd 11 43 rfl (by kernel_rfl)
     clear hs hd hg
     have l := cell_later hb HQS.out
     go_simp
     exact ⟨Below.refl _ _, rfl⟩
    ·refine relOb_mk (o := ⟨some 45, _, _, _, _, _⟩) rfl (fun r V hc hf hg hs hb hd => ?_)
     have h10 : r (.tmp 42) = .slice (some ⟨sb, so, none⟩) n3 L.sg.c := hd 10 42 rfl (by kernel_rfl)
     have h12 : r (.tmp 44) = .int .i64 (sk : Int) := hd 12 44 rfl (by kernel_rfl)
     clear hs hd hg
     have hl : (sk : Int) < n3 := by have := HSL.out; omega
     have hl0 : (0 : Int) ≤ sk := by omega
     go_simp
     exact ⟨Below.refl _ _, rfl⟩
    ·refine relOb_mk (o := ⟨some 46, _, _, _, _, _⟩) rfl (fun r V hc hf hg hs hb hd => ?_)
     have h13 : r (.tmp 45) = .pointer (some ⟨sb, so + sk * 2, none⟩) := hd 13 45 rfl (by kernel_rfl)
     clear hs hd hg
     go_simp
     exact ⟨Below.refl _ _, rfl⟩
    ·refine relOb_mk (o := ⟨some 47, _, _, _, _, _⟩) rfl (fun r V hc hf hg hs hb hd => ?_)
     have h14 : r (.tmp 46) = .pointer (some ⟨sb, so + sk * 2 + 1, none⟩) := hd 14 46 rfl (by kernel_rfl)
     clear hs hd hg
     have l := cell_later hb HS1.out
     go_simp
     exact ⟨Below.refl _ _, rfl⟩
    ·refine relOb_mk (o := ⟨some 48, _, _, _, _, _⟩) rfl (fun r V hc hf hg hs hb hd => ?_)
     have x8 : r (.tmp 8) = .pointer (some ⟨g8, 0, none⟩) := hs 8 (by kernel_rfl)
     clear hs hd hg
     have l0 := blk_cell (blk_keep hb HQ8.out) 0 _ rfl
     have l1 := blk_cell (blk_keep hb HQ8.out) 1 _ rfl
     have l2 := blk_cell (blk_keep hb HQ8.out) 2 _ rfl
     have l3 := blk_cell (blk_keep hb HQ8.out) 3 _ rfl
     have l4 := blk_cell (blk_keep hb HQ8.out) 4 _ rfl
     have l5 := blk_cell (blk_keep hb HQ8.out) 5 _ rfl
     go_simp
     exact ⟨Below.refl _ _, rfl⟩
    ·refine relOb_mk (o := ⟨some 49, _, _, _, _, _⟩) rfl (fun r V hc hf hg hs hb hd => ?_)
     have h16 : r (.tmp 48) = .agg #[.string x.nm, .int .i64 x.sg, .slice x.pa.a p1 x.pa.c, .slice x.po.a p2 x.po.c, .slice x.ov.a p3 x.ov.c, .slice x.fl.a p4 x.fl.c] := hd 16 48 rfl (by kernel_rfl)
     clear hs hd hg
     go_simp
     refine (HTRK.out V hb).mono ?_
     rintro e w' ⟨v, rfl, h2, h3⟩
     exact ⟨_, rfl, h3, h2⟩
    ·refine relOb_mk (o := ⟨some 50, _, _, _, _, _⟩) rfl (fun r V hc hf hg hs hb hd => ?_)
     have x8 : r (.tmp 8) = .pointer (some ⟨g8, 0, none⟩) := hs 8 (by kernel_rfl)
     clear hs hd hg
     have l0 := blk_cell (blk_keep hb HQ8.out) 0 _ rfl
     have l1 := blk_cell (blk_keep hb HQ8.out) 1 _ rfl
     have l2 := blk_cell (blk_keep hb HQ8.out) 2 _ rfl
     have l3 := blk_cell (blk_keep hb HQ8.out) 3 _ rfl
     have l4 := blk_cell (blk_keep hb HQ8.out) 4 _ rfl
     have l5 := blk_cell (blk_keep hb HQ8.out) 5 _ rfl
     go_simp
     exact ⟨Below.refl _ _, rfl⟩
    ·refine relOb_mk (o := ⟨some 51, _, _, _, _, _⟩) rfl (fun r V hc hf hg hs hb hd => ?_)
     have h18 : r (.tmp 50) = .agg #[.string x.nm, .int .i64 x.sg, .slice x.pa.a p1 x.pa.c, .slice x.po.a p2 x.po.c, .slice x.ov.a p3 x.ov.c, .slice x.fl.a p4 x.fl.c] := hd 18 50 rfl (by kernel_rfl)
     clear hs hd hg
     go_simp
     refine (HNDS.out V hb).mono ?_
     rintro e w' ⟨v, rfl, h2, h3⟩
     exact ⟨_, rfl, h3, h2⟩
    ·refine relOb_mk (o := ⟨some 52, _, _, _, _, _⟩) rfl (fun r V hc hf hg hs hb hd => ?_)
     have x1 : r (.tmp 1) = .pointer (some ⟨gl, 0, none⟩) := hs 1 (by kernel_rfl)
     clear hs hd hg
     have l0 := blk_cell (blk_keep hb HQL8.out) 0 _ rfl
     have l1 := blk_cell (blk_keep hb HQL8.out) 1 _ rfl
     have l2 := blk_cell (blk_keep hb HQL8.out) 2 _ rfl
     have l3 := blk_cell (blk_keep hb HQL8.out) 3 _ rfl
     go_simp
     exact ⟨Below.refl _ _, rfl⟩
    ·refine relOb_mk (o := ⟨some 53, _, _, _, _, _⟩) rfl (fun r V hc hf hg hs hb hd => ?_)
     have x7 : r (.tmp 7) = .int .i64 (i : Int) := hs 7 (by kernel_rfl)
     clear hs hd hg
     go_simp
     exact ⟨Below.refl _ _, rfl⟩
    ·refine relOb_mk (o := ⟨some 54, _, _, _, _, _⟩) rfl (fun r V hc hf hg hs hb hd => ?_)
     have h20 : r (.tmp 52) = .agg #[.slice L.se.a n1 L.se.c, .slice L.po.a n2 L.po.c, .slice L.sg.a n3 L.sg.c, .slice L.rt.a n4 L.rt.c] := hd 20 52 rfl (by kernel_rfl)
     have h21 : r (.tmp 53) = .int .i64 (i : Int) := hd 21 53 rfl (by kernel_rfl)
     clear hs hd hg
     go_simp
     refine (HCOF.out V hb).mono ?_
     rintro e w' ⟨v, rfl, h2, h3⟩
     exact ⟨_, rfl, h3, h2⟩
    ·refine relOb_mk (o := ⟨some 55, _, _, _, _, _⟩) rfl (fun r V hc hf hg hs hb hd => ?_)
     have h8 : r (.tmp 40) = .int .i64 q0 := hd 8 40 rfl (by kernel_rfl)
     have h15 : r (.tmp 47) = .int .i64 sp.2 := hd 15 47 rfl (by kernel_rfl)
     have h17 : (fun v V => RwV 1 intC (fun b => b < V8.heap.size) V x.tr v) (r (.tmp 49)) V := hd 17 49 rfl (by kernel_rfl)
     have h19 : (fun v V => RwV 2 ndC (fun b => b < V8.heap.size) V x.nd v) (r (.tmp 51)) V := hd 19 51 rfl (by kernel_rfl)
     have h22 : (fun v V => RwV 1 intC (fun b => b < V8.heap.size) V (cofL L (i : Int)) v) (r (.tmp 54)) V := hd 22 54 rfl (by kernel_rfl)
     clear hs hd hg
     unfold RwV at h17 h19 h22
     obtain ⟨a1, m1, c1, k1, e1, s1⟩ := h17
     obtain ⟨a2, m2, c2, k2, e2, s2⟩ := h19
     obtain ⟨a3, m3, c3, k3, e3, s3⟩ := h22
     have HQQ := Lib.hid (lnq_mk (p := q0) (q := sp.2) e1 e2 e3 s1 s2 s3)
     clear e1 e2 e3 s1 s2 s3
     go_simp
     exact ⟨Below.refl _ _, ⟨_, _, _, _, _, _, _, _, _, rfl, HQQ.out⟩⟩
    ·refine relOb_mk (o := ⟨some 56, _, _, _, _, _⟩) rfl (fun r V hc hf hg hs hb hd => ?_)
     have h23 : (fun v V => ∃ a1 m1 c1 a2 m2 c2 a3 m3 c3, v = .agg #[.int .i64 q0, .int .i64 sp.2, .slice a1 m1 c1, .slice a2 m2 c2, .slice a3 m3 c3] ∧ LnQ (fun b => b < V8.heap.size) V ⟨q0, sp.2, x.tr, x.nd, cofL L (i : Int)⟩ [.int .i64 q0, .int .i64 sp.2, .slice a1 m1 c1, .slice a2 m2 c2, .slice a3 m3 c3]) (r (.tmp 55)) V := hd 23 55 rfl (by kernel_rfl)
     clear hs hd hg
     obtain ⟨a1, m1, c1, a2, m2, c2, a3, m3, c3, k1, hq⟩ := h23
     have HQQ := Lib.hid hq
     clear hq
     go_simp
     exact ⟨below1 V _, ⟨_, rfl, _, alloc1 V _ (Below.refl _ _), HQQ.out.below (below1 V _)⟩⟩
   ·intro a V hb hx
    have h0 : a.eval (.tmp 32) = .pointer (some ⟨g6, 0, none⟩) := hx 0 32 rfl rfl
    have h1 : a.eval (.tmp 33) = .pointer (some ⟨g6, 0, none⟩) := hx 1 33 rfl rfl
    have h2 : a.eval (.tmp 34) = .pointer (some ⟨g6, 0, none⟩) := hx 2 34 rfl rfl
    have h3 : a.eval (.tmp 35) = .pointer (some ⟨g6, 0, none⟩) := hx 3 35 rfl rfl
    have h4 : a.eval (.tmp 36) = vr := hx 4 36 rfl rfl
    have h5 : a.eval (.tmp 37) = .pointer (some ⟨g8, 2, none⟩) := hx 5 37 rfl rfl
    have h6 : a.eval (.tmp 38) = .slice (some ⟨pb, po, none⟩) p1 x.pa.c := hx 6 38 rfl rfl
    have h7 : a.eval (.tmp 39) = .pointer (some ⟨pb, po, none⟩) := hx 7 39 rfl rfl
    have h8 : a.eval (.tmp 40) = .int .i64 q0 := hx 8 40 rfl rfl
    have h9 : a.eval (.tmp 41) = .pointer (some ⟨gl, 2, none⟩) := hx 9 41 rfl rfl
    have h10 : a.eval (.tmp 42) = .slice (some ⟨sb, so, none⟩) n3 L.sg.c := hx 10 42 rfl rfl
    have h11 : a.eval (.tmp 43) = .pointer (some ⟨g8, 1, none⟩) := hx 11 43 rfl rfl
    have h12 : a.eval (.tmp 44) = .int .i64 (sk : Int) := hx 12 44 rfl rfl
    have h13 : a.eval (.tmp 45) = .pointer (some ⟨sb, so + sk * 2, none⟩) := hx 13 45 rfl rfl
    have h14 : a.eval (.tmp 46) = .pointer (some ⟨sb, so + sk * 2 + 1, none⟩) := hx 14 46 rfl rfl
    have h15 : a.eval (.tmp 47) = .int .i64 sp.2 := hx 15 47 rfl rfl
    have h16 : a.eval (.tmp 48) = .agg #[.string x.nm, .int .i64 x.sg, .slice x.pa.a p1 x.pa.c, .slice x.po.a p2 x.po.c, .slice x.ov.a p3 x.ov.c, .slice x.fl.a p4 x.fl.c] := hx 16 48 rfl rfl
    have h17 : (fun v V => RwV 1 intC (fun b => b < V8.heap.size) V x.tr v) (a.eval (.tmp 49)) V := hx 17 49 rfl rfl
    obtain ⟨v49, e49⟩ : ∃ v, a.eval (.tmp 49) = v := ⟨_, rfl⟩
    rw [e49] at h17
    have h18 : a.eval (.tmp 50) = .agg #[.string x.nm, .int .i64 x.sg, .slice x.pa.a p1 x.pa.c, .slice x.po.a p2 x.po.c, .slice x.ov.a p3 x.ov.c, .slice x.fl.a p4 x.fl.c] := hx 18 50 rfl rfl
    have h19 : (fun v V => RwV 2 ndC (fun b => b < V8.heap.size) V x.nd v) (a.eval (.tmp 51)) V := hx 19 51 rfl rfl
    obtain ⟨v51, e51⟩ : ∃ v, a.eval (.tmp 51) = v := ⟨_, rfl⟩
    rw [e51] at h19
    have h20 : a.eval (.tmp 52) = .agg #[.slice L.se.a n1 L.se.c, .slice L.po.a n2 L.po.c, .slice L.sg.a n3 L.sg.c, .slice L.rt.a n4 L.rt.c] := hx 20 52 rfl rfl
    have h21 : a.eval (.tmp 53) = .int .i64 (i : Int) := hx 21 53 rfl rfl
    have h22 : (fun v V => RwV 1 intC (fun b => b < V8.heap.size) V (cofL L (i : Int)) v) (a.eval (.tmp 54)) V := hx 22 54 rfl rfl
    obtain ⟨v54, e54⟩ : ∃ v, a.eval (.tmp 54) = v := ⟨_, rfl⟩
    rw [e54] at h22
    have h23 : (fun v V => ∃ a1 m1 c1 a2 m2 c2 a3 m3 c3, v = .agg #[.int .i64 q0, .int .i64 sp.2, .slice a1 m1 c1, .slice a2 m2 c2, .slice a3 m3 c3] ∧ LnQ (fun b => b < V8.heap.size) V ⟨q0, sp.2, x.tr, x.nd, cofL L (i : Int)⟩ [.int .i64 q0, .int .i64 sp.2, .slice a1 m1 c1, .slice a2 m2 c2, .slice a3 m3 c3]) (a.eval (.tmp 55)) V := hx 23 55 rfl rfl
    obtain ⟨v55, e55⟩ : ∃ v, a.eval (.tmp 55) = v := ⟨_, rfl⟩
    rw [e55] at h23
    have h24 : (fun v V => ∃ g C, v = .slice (some ⟨g, 0, none⟩) 1 1 ∧ V.heap[g]? = some (.cells C 80) ∧ LnQ (fun b => b < V8.heap.size) V ⟨q0, sp.2, x.tr, x.nd, cofL L (i : Int)⟩ C.toList) (a.eval (.tmp 56)) V := hx 24 56 rfl rfl
    obtain ⟨v56, e56⟩ : ∃ v, a.eval (.tmp 56) = v := ⟨_, rfl⟩
    rw [e56] at h24
    unfold fillAll
    simp only [List.foldl_cons, List.foldl_nil, h0, h1, h2, h3, h4, h5, h6, h7, h8, h9, h10, h11, h12, h13, h14, h15, h16, e49, h18, e51, h20, h21, e54, e55, e56, Act.put, List.setIfInBounds_toArray, List.set_cons_zero, List.set_cons_succ]
    clear h0 h1 h2 h3 h4 h5 h6 h7 h8 h9 h10 h11 h12 h13 h14 h15 h16 e49 h18 e51 h20 h21 e54 e55 e56 hx
    obtain ⟨g5, C5, rfl, hq5, hln⟩ := h24
    unfold LnQ at hln
    obtain ⟨y, hC5, hyR, hyX⟩ := hln
    have HQ5 := Lib.hid hq5
    have HC5 := Lib.hid hC5
    have HYR := Lib.hid hyR
    have HYV := Lib.hid hyX
    have HBV := Lib.hid hb
    have HOW := Lib.hid (own_below hb HO8.out)
    have HQW := Lib.hid (blk_keep hb HM8.out)
    have HLNV : Hid (∀ y ∈ lns, LnX (fun b => b = g6 ∨ vr.ownBlock = some b ∨ b < w.heap.size) V y) := Lib.hid (fun y hy => (HLN8.out y hy).step (WX.of_below hb))
    have HSV : Hid (V8.heap.size ≤ V.heap.size) := Lib.hid hb.size
    clear hb hq5 hC5 hyR hyX h17 h19 h22 h23 HO8 HM8 HLN8
    obtain ⟨XS, hXS⟩ : ∃ X, lns.flatMap lnC = X := ⟨_, rfl⟩
    obtain ⟨q, hq9⟩ : ∃ q, lns.length = q := ⟨_, rfl⟩
    have hq1 : q ≤ 64 := by
     have h1 : (lns.map Ln.rw).length = _ := congrArg List.length HRW.out
     rw [List.length_map, List.length_take, hq9] at h1
     have := HLT.out; have := HS4.out; omega
    have HXS := Lib.hid hXS
    have HQN := Lib.hid hq9
    rw [hXS, hq9] at HOW
    clear hXS hq9
    have hsz : g6 + 1 ≤ V.heap.size := blk_lt HQW.out
    obtain ⟨i0, hi, hz0, hz1, hz2⟩ := info_parts info_line
    refine wpAny_ready (rs := [25]) (by kernel_rfl) (by simp) (AllReady.cons (o := ⟨some 57, _, _, _, _, _⟩) rfl (fun K hK => ?_) AllReady.nil)
    refine wp_append_src3 (.tmp 36) (.tmp 56) 73 rfl (g6 + 1) 80 i0 (.agg #[.int .i64 0, .int .i64 0, .slice none 0 0, .slice none 0 0, .slice none 0 0]) 5 88 Try.underlying73 hi hz0 hz1 hz2 rfl (by decide) vr q XS rfl HOW.out (some ⟨g5, 0, none⟩) 1 1 (lnC y) rfl rfl (src_blk HQ5.out HC5.out (ln_one y)) (by unfold maxLen; omega) (by omega) hsz ?_
    intro V5 W5 hown5 hg5 hnew
    obtain ⟨a5, c5, rfl⟩ := k_sh hown5
    have HQ65 := Lib.hid (grown_keep hg5 HQW.out (fun hk => by have := (HOW.out.lt _ hk).1; omega))
    have HB5 : Hid (Below w1.heap.size w1 W5) := Lib.hid (by
     have h := (below_on HB8.out HBV.out).grown hg5 (below_on HB8.out HBV.out).size (fun k hk => by have := (HOW.out.lt _ hk).1; have := HG6.out; omega)
     exact h)
    have HV5 : Hid (∀ k, (Value.slice a5 (q + 1) c5).ownBlock = some k → vr.ownBlock = some k ∨ V.heap.size ≤ k) := Lib.hid (fun k hk => by
     rcases hnew with h | ⟨k', h1, h2⟩
     ·exact .inl (h ▸ hk)
     ·rw [h1] at hk; injection hk with hk; exact .inr (hk ▸ h2))
    have HO5 := Lib.hid hown5
    have HG5 := Lib.hid hg5
    have HY0 : Hid (LnX (fun b => b = g6 ∨ vr.ownBlock = some b ∨ b < w.heap.size) V y) := Lib.hid (by
     have hsv := HSV.out
     have hg8 := HG8.out
     have hwr := HB.out.size
     have hw1 := HB1.out.size
     have hg6 := HGL.out
     have hqm := blk_lt HQW.out
     exact HYV.out.weak (fun b hb hx => by
      rcases hx with hx | hx | hx
      ·show b < _
       have := HM8L.out
       omega
      ·have := HOB.out b hx; show b < _; omega
      ·show b < _; omega))
    have HSTEP : Hid (∀ z, LnX (fun b => b = g6 ∨ vr.ownBlock = some b ∨ b < w.heap.size) V z → LnX (fun b => b = g6 ∨ (Value.slice a5 (q + 1) c5).ownBlock = some b ∨ b < w.heap.size) W5 z) := Lib.hid (fun z hz => by
     have h1 : LnX (fun b => b = g6 ∨ vr.ownBlock = some b ∨ (Value.slice a5 (q + 1) c5).ownBlock = some b ∨ b < w.heap.size) V z := hz.weak (fun b hb hx => by
      rcases hx with hx | hx | hx | hx
      ·exact .inl hx
      ·exact .inr (.inl hx)
      ·rcases HV5.out b hx with h | h
       ·exact .inr (.inl h)
       ·omega
      ·exact .inr (.inr hx))
     have h2 := h1.step (WX.of_grown HG5.out (fun k hk => .inr (.inl hk)))
     exact h2.weak (fun b hb hx => by
      rcases hx with hx | hx | hx
      ·exact .inl hx
      ·exact .inr (.inr (.inl hx))
      ·exact .inr (.inr (.inr hx))))
    clear hown5 hg5 hnew
    refine hK _ _ ?_
    clear hK K hsz hq1
    simp only [Act.put, List.setIfInBounds_toArray, List.set_cons_zero, List.set_cons_succ]
    refine wpAny_ready (rs := [26]) (by kernel_rfl) (by simp) (AllReady.cons (o := ⟨some 58, _, _, _, _, _⟩) rfl (fun K hK => ?_) AllReady.nil)
    go_simp
    refine hK _ _ ?_
    clear hK K
    refine wpAny_ready (rs := [27]) (by kernel_rfl) (by simp) (AllReady.cons (o := ⟨some 59, _, _, _, _, _⟩) rfl (fun K hK => ?_) AllReady.nil)
    go_simp
    refine hK _ _ ?_
    clear hK K
    refine wpAny_ready (rs := [28]) (by kernel_rfl) (by simp) (AllReady.cons (o := ⟨none, _, _, _, _, _⟩) rfl (fun K hK => ?_) AllReady.nil)
    have c0 := blk_cell HQ65.out 0 _ rfl
    have f0 := blk_free HQ65.out 0
    have hl := blk_lt HQ65.out
    go_simp
    clear c0 f0 hl
    refine name_K ?_
    intro W6 hW6
    have ho6 : Only g6 W5 W6 := by rw [hW6]; exact (Only.refl g6 W5).setCell rfl _
    have HQ6 : Hid (W6.heap[g6]? = some (.cells #[(Value.slice a5 (q + 1) c5), .slice none 0 0, .int .i64 (n1 : Int), .int .u32 ((0 : Nat) : Int)] 75)) := Lib.hid (by rw [hW6]; exact blk_set HQ65.out 0 _)
    have HB6 : Hid (Below w1.heap.size w1 W6) := Lib.hid (Only.below HB5.out HG6.out HB5.out.size ho6)
    have HLN6 : Hid ((lns ++ [y]).map Ln.rw = (tbL L).rw.take (i + 1) ∧ ∀ z ∈ lns ++ [y], LnX (fun b => b = g6 ∨ (Value.slice a5 (q + 1) c5).ownBlock = some b ∨ b < w.heap.size) W6 z) := Lib.hid ⟨by
     rw [List.map_append, HRW.out, tbl_take HYX.out, HF.out, ← HYR.out]; rfl,
     fun z hz => by
      have h : LnX (fun b => b = g6 ∨ (Value.slice a5 (q + 1) c5).ownBlock = some b ∨ b < w.heap.size) W5 z := by
       rcases List.mem_append.1 hz with hz | hz
       ·exact HSTEP.out z (HLNV.out z hz)
       ·rw [List.mem_singleton.1 hz]; exact HSTEP.out y HY0.out
      exact h.step (WX.of_only ho6 (.inl rfl))⟩
    have HO6 : Hid (W6.ownsRow (g6 + 1) 80 5 (Value.slice a5 (q + 1) c5) (lns ++ [y]).length ((lns ++ [y]).flatMap lnC)) := Lib.hid (by
     have h := (WX.of_only (X := fun b => b = g6) ho6 rfl).own HO5.out (fun k hk e => by have := (World.ownsRow.lt HO5.out _ hk).1; omega)
     refine k_snoc rfl ?_
     rw [HXS.out, HQN.out]
     exact h)
    clear hW6 ho6
    refine hK _ _ ?_
    clear hK K
    refine wpAny_done (by kernel_rfl) ?_ _
    go_wp2_with fail
    rw [← HXX.out]
    go_roundg (n4 - (i + 1))
    case rel => exact ⟨i + 1, (Value.slice a5 (q + 1) c5), lns ++ [y], k_next HI.out HLT.out, by go_num, HQ6.out, HO6.out, HLN6.out.1, HLN6.out.2, HB6.out⟩
    case measure => exact k_less HI.out HLT.out
  ·skip
   have d2 : ¬ (i : Int) < n4 := by omega
   have hin : i = n4 := by have := HI.out; omega
   have HRWE : Hid (lns.map Ln.rw = (tbL L).rw) := Lib.hid (by rw [HRW.out, hin]; exact List.take_of_length_le (by rw [tbl_len, HN4.out]; exact Nat.le_refl _))
   obtain ⟨wz, rfl⟩ : ∃ W, W = wr := ⟨_, rfl⟩
   obtain ⟨B2, hB2⟩ : ∃ b, b = wz.heap.size := ⟨_, rfl⟩
   have HB2 : Hid (B2 = wz.heap.size ∧ g6 < B2) := Lib.hid ⟨hB2, by rw [hB2]; exact blk_lt HQM.out⟩
   have hql1 := blk_keep HB.out HQL1.out
   clear hin hlt HI hB2
   have l1 := blk_cell hql1 1 _ rfl
   go_upto_region 11 with fail
   clear l1 hql1
   go_loopg [64] n2 (fun g v wr => ∃ (j : Nat) (vl : Value), j + g = n2 ∧ v = .int .i64 (j : Int) ∧ wr.heap[g6]? = some (.cells #[vr, vl, .int .i64 (n1 : Int), .int .u32 ((pw j - 1 : Nat) : Int)] 75) ∧ wr.ownsRow B2 3 1 vl ((tbL L).li.take j).length (((tbL L).li.take j).flatMap intC) ∧ WX (fun y => y = g6) wz wr)
   case atStart => exact ⟨0, .slice none 0 0, by omega, rfl, by simpa [pw] using HQM.out, by rw [List.take_zero]; exact World.ownsRow_nil _ _ _ _, WX.refl _ _⟩
   case round =>
    obtain ⟨j, vl, hj, rfl, hq, ho, hwx⟩ := hrel
    have HJ := Lib.hid hj
    have HQV := Lib.hid hq
    have HOL := Lib.hid ho
    have HWX := Lib.hid hwx
    have HBZ : Hid (Below w1.heap.size w1 wr) := Lib.hid (WX.below HB.out hwx (fun y hy => by rw [hy]; exact HG6.out))
    clear hj hq ho hwx
    by_cases hlj : j < n2
    ·have d3 : (0 : Int) ≤ j := by omega
     have d4 : (j : Int) < n2 := by omega
     have e2 := k_succ hlj (Nat.le_trans HS2.out (by decide))
     have HLJ := Lib.hid hlj
     have HJ31 : Hid (j ≤ 31) := Lib.hid (by have := HS2.out; omega)
     obtain ⟨pt1, hpt⟩ : ∃ p, L.po.l[j]? = some p := ⟨_, List.getElem?_eq_getElem (by rw [HN2.out]; exact hlj)⟩
     have HPJ := Lib.hid hpt
     obtain ⟨PX, hPX⟩ : ∃ a, L.po.a = a := ⟨_, rfl⟩
     have HPX := Lib.hid hPX
     have hrow := HLW.out.po.row
     rw [hPX] at hrow ⊢
     rcases hrow with hnil | ⟨ob, of_, hob, hoc⟩
     ·rw [hnil] at hpt; cases hpt
     subst hob
     have y0 := cell_later (below_on HB1.out HBZ.out) (hoc j _ hpt 0 _ rfl)
     have y1 := cell_later (below_on HB1.out HBZ.out) (hoc j _ hpt 1 _ rfl)
     rw [Nat.add_zero] at y0
     clear hlj hpt hPX hoc
     go_upto_region 13 with fail
     clear y0 y1
     have hbn := below1 wr (.cells #[.string pt1.1, .int .i64 pt1.2] 51)
     have hqn := alloc1 wr (.cells #[.string pt1.1, .int .i64 pt1.2] 51) (Below.refl _ _)
     obtain ⟨V10, hV10⟩ : ∃ V, V = wr.alloc (.cells #[.string pt1.1, .int .i64 pt1.2] 51) := ⟨_, rfl⟩
     rw [← hV10] at hbn hqn ⊢
     obtain ⟨g10, hg10⟩ : ∃ g, g = wr.heap.size := ⟨_, rfl⟩
     rw [← hg10] at hqn ⊢
     have HQ6V := Lib.hid (blk_keep hbn HQV.out)
     have HOL10 := Lib.hid (own_below hbn HOL.out)
     have HQ10 := Lib.hid hqn
     have HWX10 := Lib.hid (HWX.out.trans (WX.of_below hbn))
     clear hbn hqn hV10 hg10 HQV HOL HWX
     refine wp_region_rel1 (by kernel_rfl) [8, 9, 10, 11] 14 [1, 2, 3, 4, 5, 6, 7] [69, 70, 71, 72, 73, 74, 75, 76] #[true, true, true, true, true, true, true, true, false, false, false, false] 4 [(fun v _ => v = .pointer (some ⟨g6, 0, none⟩)), (fun v _ => v = .pointer (some ⟨g6, 0, none⟩)), (fun v _ => v = .pointer (some ⟨g6, 0, none⟩)), (fun v _ => v = .pointer (some ⟨g6, 1, none⟩)), (fun v _ => v = vl), (fun v _ => v = .pointer (some ⟨g10, 1, none⟩)), (fun v _ => v = .int .i64 pt1.2), (fun v V => ∃ g, v = .slice (some ⟨g, 0, none⟩) 1 1 ∧ V.heap[g]? = some (.cells #[.int .i64 pt1.2] 3)), (fun _ _ => True), (fun _ _ => True), (fun _ _ => True), (fun _ _ => True)] 0 69 (.pointer (some ⟨g6, 0, none⟩)) (ou := ⟨some 69, _, _, _, _, _⟩) rfl rfl rfl (by kernel_rfl) (by kernel_rfl) (by kernel_rfl) (by kernel_rfl) (fun _ _ _ h => h) (Or.inl ⟨by rfl, fun w => by go_simp⟩) (by kernel_rfl) (fun _ => rfl) (by kernel_rfl) (by kernel_rfl) (by kernel_rfl) (by kernel_rfl) (by kernel_rfl) rfl (by kernel_rfl) rfl ?_ ?_ ?_
     ·exact ⟨stays_is _, stays_is _, stays_is _, stays_is _, stays_is _, stays_is _, stays_is _, (fun v W W2 h hb => by obtain ⟨g, h1, h2⟩ := h; exact ⟨g, h1, blk_keep hb h2⟩), stays_true, stays_true, stays_true, stays_true, trivial⟩
     ·refine ⟨?_, ?_, ?_, ?_, ?_, ?_, ?_, trivial⟩
      ·refine relOb_mk (o := ⟨some 70, _, _, _, _, _⟩) rfl (fun r V hc hf hg hs hb hd => ?_)
       have x6 : r (.tmp 6) = .pointer (some ⟨g6, 0, none⟩) := hs 6 (by kernel_rfl)
       clear hs hd hg
       go_simp
       exact ⟨Below.refl _ _, rfl⟩
      ·refine relOb_mk (o := ⟨some 71, _, _, _, _, _⟩) rfl (fun r V hc hf hg hs hb hd => ?_)
       have h1 : r (.tmp 70) = .pointer (some ⟨g6, 0, none⟩) := hd 1 70 rfl (by kernel_rfl)
       clear hs hd hg
       go_simp
       exact ⟨Below.refl _ _, rfl⟩
      ·refine relOb_mk (o := ⟨some 72, _, _, _, _, _⟩) rfl (fun r V hc hf hg hs hb hd => ?_)
       have h2 : r (.tmp 71) = .pointer (some ⟨g6, 0, none⟩) := hd 2 71 rfl (by kernel_rfl)
       clear hs hd hg
       go_simp
       exact ⟨Below.refl _ _, rfl⟩
      ·refine relOb_mk (o := ⟨some 73, _, _, _, _, _⟩) rfl (fun r V hc hf hg hs hb hd => ?_)
       have h3 : r (.tmp 72) = .pointer (some ⟨g6, 1, none⟩) := hd 3 72 rfl (by kernel_rfl)
       clear hs hd hg
       have l := blk_cell (blk_keep hb HQ6V.out) 1 _ rfl
       go_simp
       exact ⟨Below.refl _ _, rfl⟩
      ·refine relOb_mk (o := ⟨some 74, _, _, _, _, _⟩) rfl (fun r V hc hf hg hs hb hd => ?_)
       have x10 : r (.tmp 10) = .pointer (some ⟨g10, 0, none⟩) := hs 10 (by kernel_rfl)
       clear hs hd hg
       go_simp
       exact ⟨Below.refl _ _, rfl⟩
      ·refine relOb_mk (o := ⟨some 75, _, _, _, _, _⟩) rfl (fun r V hc hf hg hs hb hd => ?_)
       have h5 : r (.tmp 74) = .pointer (some ⟨g10, 1, none⟩) := hd 5 74 rfl (by kernel_rfl)
       clear hs hd hg
       have l := blk_cell (blk_keep hb HQ10.out) 1 _ rfl
       go_simp
       exact ⟨Below.refl _ _, rfl⟩
      ·refine relOb_mk (o := ⟨some 76, _, _, _, _, _⟩) rfl (fun r V hc hf hg hs hb hd => ?_)
       have h6 : r (.tmp 75) = .int .i64 pt1.2 := hd 6 75 rfl (by kernel_rfl)
       clear hs hd hg
       go_simp
       exact ⟨below1 V _, ⟨_, rfl, alloc1 V _ (Below.refl _ _)⟩⟩
     ·intro a V hb hx
      have h0 : a.eval (.tmp 69) = .pointer (some ⟨g6, 0, none⟩) := hx 0 69 rfl rfl
      have h1 : a.eval (.tmp 70) = .pointer (some ⟨g6, 0, none⟩) := hx 1 70 rfl rfl
      have h2 : a.eval (.tmp 71) = .pointer (some ⟨g6, 0, none⟩) := hx 2 71 rfl rfl
      have h3 : a.eval (.tmp 72) = .pointer (some ⟨g6, 1, none⟩) := hx 3 72 rfl rfl
      have h4 : a.eval (.tmp 73) = vl := hx 4 73 rfl rfl
      have h5 : a.eval (.tmp 74) = .pointer (some ⟨g10, 1, none⟩) := hx 5 74 rfl rfl
      have h6 : a.eval (.tmp 75) = .int .i64 pt1.2 := hx 6 75 rfl rfl
      have h7 : (fun v V => ∃ g, v = .slice (some ⟨g, 0, none⟩) 1 1 ∧ V.heap[g]? = some (.cells #[.int .i64 pt1.2] 3)) (a.eval (.tmp 76)) V := hx 7 76 rfl rfl
      obtain ⟨v76, e76⟩ : ∃ v, a.eval (.tmp 76) = v := ⟨_, rfl⟩
      rw [e76] at h7
      unfold fillAll
      simp only [List.foldl_cons, List.foldl_nil, h0, h1, h2, h3, h4, h5, h6, e76, Act.put, List.setIfInBounds_toArray, List.set_cons_zero, List.set_cons_succ]
      clear h0 h1 h2 h3 h4 h5 h6 e76 hx
      obtain ⟨g5, rfl, hq5⟩ := h7
      have HBV := Lib.hid hb
      have HQ5 := Lib.hid hq5
      have HOW := Lib.hid (own_below hb HOL10.out)
      have HQW := Lib.hid (blk_keep hb HQ6V.out)
      have HWV := Lib.hid (HWX10.out.trans (WX.of_below hb))
      clear hb hq5
      obtain ⟨XS, hXS⟩ : ∃ X, ((tbL L).li.take j).flatMap intC = X := ⟨_, rfl⟩
      obtain ⟨q, hq9⟩ : ∃ q, ((tbL L).li.take j).length = q := ⟨_, rfl⟩
      have hq1 : q ≤ 64 := by rw [← hq9, List.length_take]; have := HLJ.out; have := HS2.out; omega
      have HXS := Lib.hid hXS
      have HQN := Lib.hid hq9
      rw [hXS, hq9] at HOW
      clear hXS hq9
      have hsz : B2 ≤ V.heap.size := by have := HWV.out.size; have := HB2.out; omega
      obtain ⟨i0, hi, hz0, hz1, hz2⟩ := info_parts info_i64
      refine wpAny_ready (rs := [8]) (by kernel_rfl) (by simp) (AllReady.cons (o := ⟨some 77, _, _, _, _, _⟩) rfl (fun K hK => ?_) AllReady.nil)
      refine step_append_src rfl (.tmp 73) (.tmp 76) 53 rfl B2 3 i0 (.int .i64 0) 1 8 Try.underlying53 hi hz0 hz1 hz2 rfl (by decide) vl q XS rfl HOW.out (some ⟨g5, 0, none⟩) 1 1 [.int .i64 pt1.2] rfl rfl (src_one rfl HQ5.out) (by unfold maxLen; omega) (by omega) hsz ?_
      intro V5 W5 hown5 hg5
      obtain ⟨a5, c5, rfl⟩ := k_sh hown5
      have HQ65 := Lib.hid (grown_keep hg5 HQW.out (fun hk => by have := (HOW.out.lt _ hk).1; have := HB2.out; omega))
      have HW5 : Hid (WX (fun y => y = g6) wz W5) := Lib.hid (wx_grown HWV.out hg5 (fun k hk => by have := (HOW.out.lt _ hk).1; have := HB2.out; omega))
      have HO5 := Lib.hid hown5
      clear hown5 hg5
      refine hK _ _ ?_
      clear hK K hsz
      simp only [Act.put, List.setIfInBounds_toArray, List.set_cons_zero, List.set_cons_succ]
      refine wpAny_ready (rs := [9]) (by kernel_rfl) (by simp) (AllReady.cons (o := ⟨some 78, _, _, _, _, _⟩) rfl (fun K hK => ?_) AllReady.nil)
      go_simp
      refine hK _ _ ?_
      clear hK K
      refine wpAny_ready (rs := [10]) (by kernel_rfl) (by simp) (AllReady.cons (o := ⟨some 79, _, _, _, _, _⟩) rfl (fun K hK => ?_) AllReady.nil)
      go_simp
      refine hK _ _ ?_
      clear hK K
      refine wpAny_ready (rs := [11]) (by kernel_rfl) (by simp) (AllReady.cons (o := ⟨none, _, _, _, _, _⟩) rfl (fun K hK => ?_) AllReady.nil)
      have c0 := blk_cell HQ65.out 1 _ rfl
      have f0 := blk_free HQ65.out 1
      have hl := blk_lt HQ65.out
      go_simp
      clear c0 f0 hl
      refine name_K ?_
      intro W6 hW6
      have ho6 : Only g6 W5 W6 := by rw [hW6]; exact (Only.refl g6 W5).setCell rfl _
      have HQ6 : Hid (W6.heap[g6]? = some (.cells #[vr, (Value.slice a5 (q + 1) c5), .int .i64 (n1 : Int), .int .u32 ((pw j - 1 : Nat) : Int)] 75)) := Lib.hid (by rw [hW6]; exact blk_set HQ65.out 1 _)
      have HW6 : Hid (WX (fun y => y = g6) wz W6) := Lib.hid (HW5.out.trans (WX.of_only ho6 rfl))
      have HO6 : Hid (W6.ownsRow B2 3 1 (Value.slice a5 (q + 1) c5) ((tbL L).li.take (j + 1)).length (((tbL L).li.take (j + 1)).flatMap intC)) := Lib.hid (by
       have h := (WX.of_only (X := fun y => y = g6) ho6 rfl).own HO5.out (fun k hk e => by have := (World.ownsRow.lt HO5.out _ hk).1; have := HB2.out; omega)
       rw [tbl_ptk HPJ.out]
       refine k_snoc (x := pt1.2) rfl ?_
       rw [HXS.out, HQN.out]
       exact h)
      clear hW6 ho6 hq1 HQ65 HW5 HO5
      refine hK _ _ ?_
      clear hK K
      refine wpAny_done (by kernel_rfl) ?_ _
      go_upto_region 14 with fail
      refine wp_region_rel (by kernel_rfl) [9] 12 [0, 1, 2, 3, 4, 5, 6, 7, 8] [80, 81, 82, 83, 84, 85, 86, 87, 88] #[true, true, true, true, true, true, true, true, true, false] 1 [(fun v _ => v = .pointer (some ⟨g6, 0, none⟩)), (fun v _ => v = .pointer (some ⟨g6, 0, none⟩)), (fun v _ => v = .pointer (some ⟨g6, 3, none⟩)), (fun v _ => v = .int .u32 ((pw j - 1 : Nat) : Int)), (fun v _ => v = .int .i64 (j : Int)), (fun v _ => v = .int .u32 ((pw j : Nat) : Int)), (fun v _ => v = .int .u32 ((pw (j + 1) - 1 : Nat) : Int)), (fun v _ => v = .pointer (some ⟨g6, 0, none⟩)), (fun v _ => v = .pointer (some ⟨g6, 3, none⟩)), (fun _ _ => True)] (by kernel_rfl) (by kernel_rfl) (by kernel_rfl) (by kernel_rfl) (by kernel_rfl) rfl (by kernel_rfl) rfl ?_ ?_ ?_
      ·exact ⟨stays_is _, stays_is _, stays_is _, stays_is _, stays_is _, stays_is _, stays_is _, stays_is _, stays_is _, stays_true, trivial⟩
      ·refine ⟨?_, ?_, ?_, ?_, ?_, ?_, ?_, ?_, ?_, trivial⟩
       ·refine relOb_mk (o := ⟨some 80, _, _, _, _, _⟩) rfl (fun r V hc hf hg hs hb hd => ?_)
        have x6 : r (.tmp 6) = .pointer (some ⟨g6, 0, none⟩) := hs 6 (by kernel_rfl)
        clear hs hd hg
        go_simp
        exact ⟨Below.refl _ _, rfl⟩
       ·refine relOb_mk (o := ⟨some 81, _, _, _, _, _⟩) rfl (fun r V hc hf hg hs hb hd => ?_)
        have h0 : r (.tmp 80) = .pointer (some ⟨g6, 0, none⟩) := hd 0 80 rfl (by kernel_rfl)
        clear hs hd hg
        go_simp
        exact ⟨Below.refl _ _, rfl⟩
       ·refine relOb_mk (o := ⟨some 82, _, _, _, _, _⟩) rfl (fun r V hc hf hg hs hb hd => ?_)
        have h1 : r (.tmp 81) = .pointer (some ⟨g6, 0, none⟩) := hd 1 81 rfl (by kernel_rfl)
        clear hs hd hg
        go_simp
        exact ⟨Below.refl _ _, rfl⟩
       ·refine relOb_mk (o := ⟨some 83, _, _, _, _, _⟩) rfl (fun r V hc hf hg hs hb hd => ?_)
        have h2 : r (.tmp 82) = .pointer (some ⟨g6, 3, none⟩) := hd 2 82 rfl (by kernel_rfl)
        clear hs hd hg
        have l := blk_cell (blk_keep hb HQ6.out) 3 _ rfl
        go_simp
        exact ⟨Below.refl _ _, rfl⟩
       ·refine relOb_mk (o := ⟨some 84, _, _, _, _, _⟩) rfl (fun r V hc hf hg hs hb hd => ?_)
        have x9 : r (.tmp 9) = .int .i64 (j : Int) := hs 9 (by kernel_rfl)
        clear hs hd hg
        go_simp
        exact ⟨Below.refl _ _, rfl⟩
       ·refine relOb_mk (o := ⟨some 85, _, _, _, _, _⟩) rfl (fun r V hc hf hg hs hb hd => ?_)
        have h4 : r (.tmp 84) = .int .i64 (j : Int) := hd 4 84 rfl (by kernel_rfl)
        clear hs hd hg
        have hs1 := shl32 HJ31.out
        have j0 : (0 : Int) ≤ j := by omega
        have j1 : min j 32 = j := by have := HJ31.out; omega
        have j2 : ¬ (32 : Int) ≤ j := by have := HJ31.out; omega
        go_simp
        exact ⟨Below.refl _ _, by simp⟩
       ·refine relOb_mk (o := ⟨some 86, _, _, _, _, _⟩) rfl (fun r V hc hf hg hs hb hd => ?_)
        have h3 : r (.tmp 83) = .int .u32 ((pw j - 1 : Nat) : Int) := hd 3 83 rfl (by kernel_rfl)
        have h5 : r (.tmp 85) = .int .u32 ((pw j : Nat) : Int) := hd 5 85 rfl (by kernel_rfl)
        clear hs hd hg
        have hs1 := (or_step32 (s := pw j - 1) HJ31.out (Nat.lt_of_le_of_lt (Nat.sub_le _ _) (pw_lt32 HJ31.out))).trans (congrArg (fun n : Nat => (n : Int)) (pw_32 j))
        go_simp
        exact ⟨Below.refl _ _, rfl⟩
       ·refine relOb_mk (o := ⟨some 87, _, _, _, _, _⟩) rfl (fun r V hc hf hg hs hb hd => ?_)
        have h0 : r (.tmp 80) = .pointer (some ⟨g6, 0, none⟩) := hd 0 80 rfl (by kernel_rfl)
        clear hs hd hg
        go_simp
        exact ⟨Below.refl _ _, rfl⟩
       ·refine relOb_mk (o := ⟨some 88, _, _, _, _, _⟩) rfl (fun r V hc hf hg hs hb hd => ?_)
        have h7 : r (.tmp 87) = .pointer (some ⟨g6, 0, none⟩) := hd 7 87 rfl (by kernel_rfl)
        clear hs hd hg
        go_simp
        exact ⟨Below.refl _ _, rfl⟩
      ·intro a V hb hx
       have h0 : a.eval (.tmp 80) = .pointer (some ⟨g6, 0, none⟩) := hx 0 80 rfl rfl
       have h1 : a.eval (.tmp 81) = .pointer (some ⟨g6, 0, none⟩) := hx 1 81 rfl rfl
       have h2 : a.eval (.tmp 82) = .pointer (some ⟨g6, 3, none⟩) := hx 2 82 rfl rfl
       have h3 : a.eval (.tmp 83) = .int .u32 ((pw j - 1 : Nat) : Int) := hx 3 83 rfl rfl
       have h4 : a.eval (.tmp 84) = .int .i64 (j : Int) := hx 4 84 rfl rfl
       have h5 : a.eval (.tmp 85) = .int .u32 ((pw j : Nat) : Int) := hx 5 85 rfl rfl
       have h6 : a.eval (.tmp 86) = .int .u32 ((pw (j + 1) - 1 : Nat) : Int) := hx 6 86 rfl rfl
       have h7 : a.eval (.tmp 87) = .pointer (some ⟨g6, 0, none⟩) := hx 7 87 rfl rfl
       have h8 : a.eval (.tmp 88) = .pointer (some ⟨g6, 3, none⟩) := hx 8 88 rfl rfl
       unfold fillAll
       simp only [List.foldl_cons, List.foldl_nil, h0, h1, h2, h3, h4, h5, h6, h7, h8, Act.put, List.setIfInBounds_toArray, List.set_cons_zero, List.set_cons_succ]
       clear h0 h1 h2 h3 h4 h5 h6 h7 h8 hx
       have HQV := Lib.hid (blk_keep hb HQ6.out)
       have HWV2 := Lib.hid (HW6.out.trans (WX.of_below hb))
       have HO7 := Lib.hid (own_below hb HO6.out)
       clear hb HQ6 HW6 HO6
       refine wpAny_ready (rs := [9]) (by kernel_rfl) (by simp) (AllReady.cons (o := ⟨none, _, _, _, _, _⟩) rfl (fun K hK => ?_) AllReady.nil)
       have c0 := blk_cell HQV.out 3 _ rfl
       have f0 := blk_free HQV.out 3
       have hl := blk_lt HQV.out
       go_simp
       clear c0 f0 hl
       refine name_K ?_
       intro W7 hW7
       have ho7 : Only g6 V W7 := by rw [hW7]; exact (Only.refl g6 V).setCell rfl _
       have HQ7 : Hid (W7.heap[g6]? = some (.cells #[vr, (Value.slice a5 (q + 1) c5), .int .i64 (n1 : Int), .int .u32 ((pw (j + 1) - 1 : Nat) : Int)] 75)) := Lib.hid (by rw [hW7]; exact blk_set HQV.out 3 _)
       have HW7 : Hid (WX (fun y => y = g6) wz W7) := Lib.hid (HWV2.out.trans (WX.of_only ho7 rfl))
       have HO8 := Lib.hid ((WX.of_only (X := fun y => y = g6) ho7 rfl).own HO7.out (fun k hk e => by have := (World.ownsRow.lt HO7.out _ hk).1; have := HB2.out; omega))
       clear hW7 ho7 HQV HWV2 HO7
       refine hK _ _ ?_
       clear hK K
       refine wpAny_done (by kernel_rfl) ?_ _
       go_wp2_with fail
       rw [← HPX.out]
       go_roundg (n2 - (j + 1))
       case rel => exact ⟨j + 1, _, k_next HJ.out HLJ.out, by go_num, HQ7.out, HO8.out, HW7.out⟩
       case measure => exact k_less HJ.out HLJ.out
    ·have d4 : ¬ (j : Int) < n2 := by omega
     have hjn : j = n2 := by have := HJ.out; omega
     have HEND : Hid (∃ M : Mc, MachX (fun b => b < w.heap.size) wr g6 M ∧ M.tb = tbL L ∧ M.pt = pw L.po.l.length - 1) := Lib.hid (by
      have hgl := HGL.out
      have ho := HOL.out
      have hq := HQV.out
      rw [hjn] at hq ho
      rw [List.take_of_length_le (by rw [tbl_li, HN2.out]; exact Nat.le_refl _), tbl_li, HN2.out] at ho
      rw [HN2.out]
      refine mach_end hq (fun h => by have h : g6 < w.heap.size := h; omega) ⟨g6 + 1, HWX.out.own HO.out (fun k hk e => by have := (HOB.out k hk).1; omega), fun b hb => by have hb : b < w.heap.size := hb; omega⟩ ⟨B2, ho, fun b hb => by have hb : b < w.heap.size := hb; have := HB2.out; omega⟩ (by rw [tbl_li, HN2.out]) HRWE.out (fun x hx => ?_)
      exact ((HLN.out x hx).step (HWX.out.mono (fun b hb => .inl hb))).weak (fun b _ hb => .inr (.inr hb)))
     have HBE : Hid (Below w.heap.size w wr) := Lib.hid (below_on HB1.out HBZ.out)
     clear hjn hlj HQV HOL
     go_wp2_with fail
     go_ret2
     obtain ⟨M, h1, h2, h3⟩ := HEND.out
     exact ⟨g6, rfl, M, h1, h2, h3, HBE.out⟩
end Go.Proofs.Ytpohoannggdbjaa
