/-
 Merged: TpF, TpG, TpH.
-/
import Derived.Test.YtjienmjpfklgeaaMC
namespace Go.Proofs.Ytjienmjpfklgeaa
open Go.RowKit

/-- w' is w with new blocks, and blocks of X written -/
structure WX (X : Nat → Prop) (w w' : World) : Prop where
 os : w'.os = w.os
 tape : w'.tape = w.tape
 output : w'.output = w.output
 size : w.heap.size ≤ w'.heap.size
 block : ∀ k, k < w.heap.size → ¬ X k → w'.heap[k]? = w.heap[k]?
theorem WX.refl (X : Nat → Prop) (w : World) : WX X w w := ⟨rfl, rfl, rfl, Nat.le_refl _, fun _ _ _ => rfl⟩
theorem WX.of_below {X : Nat → Prop} {w w' : World} (h : Below w.heap.size w w') : WX X w w' := ⟨h.os, h.tape, h.output, h.size, fun k hk _ => h.block k hk⟩
theorem WX.of_only {X : Nat → Prop} {g : Nat} {w w' : World} (h : Only g w w') (hg : X g) : WX X w w' := ⟨h.os, h.tape, h.output, h.size, fun k hk hx => h.block k hk (fun e => hx (e ▸ hg))⟩
theorem WX.set {X : Nat → Prop} {w : World} {g : Nat} (hg : X g) (i : Nat) (v : Value) : WX X w (w.setCell ⟨g, i, none⟩ v) := WX.of_only ((Only.refl g w).setCell rfl v) hg
theorem WX.of_grown {X : Nat → Prop} {w w' : World} {row : Option Nat} (h : w.grownBy w' row) (hr : ∀ k, row = some k → X k) : WX X w w' := ⟨h.os, h.tape, h.output, h.size, fun k hk hx => h.block k hk (fun e => hx (hr k e.symm))⟩
theorem WX.trans {X : Nat → Prop} {a b c : World} (h : WX X a b) (k : WX X b c) : WX X a c :=
 ⟨k.os.trans h.os, k.tape.trans h.tape, k.output.trans h.output, Nat.le_trans h.size k.size, fun i hi hx => (k.block i (Nat.lt_of_lt_of_le hi h.size) hx).trans (h.block i hi hx)⟩
theorem WX.mono {X Y : Nat → Prop} {w w' : World} (h : WX X w w') (hxy : ∀ b, X b → Y b) : WX Y w w' := ⟨h.os, h.tape, h.output, h.size, fun k hk hy => h.block k hk (fun e => hy (hxy k e))⟩
theorem WX.keep {X : Nat → Prop} {w w' : World} {k : Nat} {o : Obj} (h : WX X w w') (hk : ¬ X k) (hb : w.heap[k]? = some o) : w'.heap[k]? = some o := by rw [h.block k (blk_lt hb) hk, hb]
theorem WX.below {X : Nat → Prop} {w0 w w' : World} (h : Below w0.heap.size w0 w) (k : WX X w w') (hx : ∀ b, X b → w0.heap.size ≤ b) : Below w0.heap.size w0 w' :=
 ⟨k.os.trans h.os, k.tape.trans h.tape, k.output.trans h.output, Nat.le_trans h.size k.size, fun i hi => (k.block i (Nat.lt_of_lt_of_le hi h.size) (fun e => by have := hx i e; omega)).trans (h.block i hi)⟩
theorem WX.own {X : Nat → Prop} {w w' : World} {base : Nat} {e : TypeId} {sz : Nat} {v : Value} {n : Nat} {xs : List Value} (h : WX X w w') (ho : w.ownsRow base e sz v n xs) (hx : ∀ k, v.ownBlock = some k → ¬ X k) : w'.ownsRow base e sz v n xs := by
 refine ⟨ho.1, ho.2.imp id ?_⟩
 rintro ⟨g, cap, cur, h1, h2, h3, h4⟩
 exact ⟨g, cap, cur, h1, h2, h.keep (hx g (by rw [h1]; rfl)) h3, h4⟩

/-- a row that lies in no block of X -/
structure SlX {α : Type} (sz : Nat) (f : α → List Value) (X : Nat → Prop) (w : World) (s : Sl α) : Prop where
 at_ : SlAt sz f w s
 off : s.l = [] ∨ ∃ b off, s.a = some ⟨b, off, none⟩ ∧ b < w.heap.size ∧ ¬ X b
 fr : s.l = [] ∨ ∃ b off, s.a = some ⟨b, off, none⟩ ∧ ∀ i, w.frozen? ⟨b, i, none⟩ = false
theorem SlX.step {α : Type} {sz : Nat} {f : α → List Value} {X : Nat → Prop} {w w' : World} {s : Sl α} (h : SlX sz f X w s) (k : WX X w w') : SlX sz f X w' s := by
 refine ⟨⟨?_, h.at_.len, h.at_.cap, h.at_.capNil⟩, h.off.imp id ?_, ?_⟩
 ·rcases h.off with h0 | ⟨b, off, h1, h2, h3⟩
  ·exact .inl h0
  ·rcases h.at_.row with hl | ⟨b', off', hb, hc⟩
   ·exact .inl hl
   ·rw [h1] at hb
    injection hb with hb
    injection hb with hb hoff
    subst hb
    subst hoff
    refine .inr ⟨b, off, h1, fun i c hi j v hv => ?_⟩
    rw [World.cell?_of_block (w := w) (a := ⟨b, off + i * sz + j, none⟩) (k.block b h2 h3)]
    exact hc i c hi j v hv
 ·rintro ⟨b, off, h1, h2, h3⟩
  exact ⟨b, off, h1, Nat.lt_of_lt_of_le h2 k.size, h3⟩
 ·rcases h.off with h0 | ⟨b, off, h1, h2, h3⟩
  ·exact .inl h0
  ·refine h.fr.imp id ?_
   rintro ⟨b', off', h1', hf⟩
   rw [h1] at h1'
   cases h1'
   exact ⟨b, off, h1, fun i => by rw [World.frozen?_of_block (w := w) (a := ⟨b, i, none⟩) (k.block b h2 h3)]; exact hf i⟩
theorem SlX.weak {α : Type} {sz : Nat} {f : α → List Value} {X Y : Nat → Prop} {w : World} {s : Sl α} (h : SlX sz f X w s) (hy : ∀ b, b < w.heap.size → Y b → X b) : SlX sz f Y w s := by
 refine ⟨h.at_, h.off.imp id ?_, h.fr⟩
 rintro ⟨b, off, h1, h2, h3⟩
 exact ⟨b, off, h1, h2, fun e => h3 (hy b h2 e)⟩
theorem SlX.nil {α : Type} {sz : Nat} {f : α → List Value} {X : Nat → Prop} {w : World} : SlX sz f X w ⟨none, 0, []⟩ := ⟨sl_none, .inl rfl, .inl rfl⟩
theorem own_fr {α : Type} {f : α → List Value} {sz : Nat} {w : World} {base : Nat} {e : TypeId} {v : Value} {n : Nat} {l : List α} {a : Option Addr} {c : Nat} (hn : l.length = n) (hv : v = .slice a n c) (h : w.ownsRow base e sz v n (l.flatMap f)) : l = [] ∨ ∃ b off, a = some ⟨b, off, none⟩ ∧ ∀ i, w.frozen? ⟨b, i, none⟩ = false := by
 rcases h.2 with ⟨_, h0⟩ | ⟨g, cap, cur, h1, _, hheap, _⟩
 ·exact .inl (List.eq_nil_of_length_eq_zero (hn.trans h0))
 ·rw [hv] at h1
  cases h1
  exact .inr ⟨g, 0, rfl, fun i => blk_free hheap i⟩
/-- a row that the call owns, of base lo, is in no block of X, if all of X lie below lo -/
theorem own_slx {α : Type} {f : α → List Value} {sz : Nat} {X : Nat → Prop} {w : World} {base : Nat} {e : TypeId} {v : Value} {n : Nat} {l : List α} (hf : ∀ c, (f c).length = sz) (hn : l.length = n) (h : w.ownsRow base e sz v n (l.flatMap f)) (hx : ∀ b, X b → b < base) :
 ∃ a c, v = .slice a n c ∧ SlX sz f X w ⟨a, c, l⟩ := by
 obtain ⟨a, c, hv, hs, hm⟩ := own_sl2 hf hn h
 refine ⟨a, c, hv, hs, ?_, ?_⟩
 ·rcases hm with h0 | ⟨g, cs, t, h1, h2, h3, h4⟩
  ·exact .inl (List.eq_nil_of_length_eq_zero (hn.trans h0))
  ·exact .inr ⟨g, 0, h1, blk_lt h3, fun e => by have := hx g e; omega⟩
 ·exact own_fr hn hv h
structure RtX (X : Nat → Prop) (w : World) (r : Rt) : Prop where
 nm : r.nm.size ≤ maxLen
 pa : SlX 1 intC X w r.pa
 po : SlX 2 ndC X w r.po
 ov : SlX 1 intC X w r.ov
 fl : SlX 2 ndC X w r.fl
theorem RtX.step {X : Nat → Prop} {w w' : World} {r : Rt} (h : RtX X w r) (k : WX X w w') : RtX X w' r := ⟨h.nm, h.pa.step k, h.po.step k, h.ov.step k, h.fl.step k⟩
theorem RtX.weak {X Y : Nat → Prop} {w : World} {r : Rt} (h : RtX X w r) (hy : ∀ b, b < w.heap.size → Y b → X b) : RtX Y w r := ⟨h.nm, h.pa.weak hy, h.po.weak hy, h.ov.weak hy, h.fl.weak hy⟩
theorem RtX.at_ {X : Nat → Prop} {w : World} {r : Rt} (h : RtX X w r) : RtAt w r := ⟨h.nm, h.pa.at_, h.po.at_, h.ov.at_, h.fl.at_⟩
/-- a layout of which no row lies in a block of X -/
structure LayX (X : Nat → Prop) (w : World) (L : Lay) : Prop where
 se : SlX 1 strC X w L.se
 po : SlX 2 ptC X w L.po
 sg : SlX 2 ptC X w L.sg
 rt : SlX 6 rtC X w L.rt
 sn : ∀ s ∈ L.se.l, s.size ≤ maxLen
 pn : ∀ p ∈ L.po.l, p.1.size ≤ maxLen
 gn : ∀ p ∈ L.sg.l, p.1.size ≤ maxLen
 rn : ∀ r ∈ L.rt.l, RtX X w r
theorem LayX.at_ {X : Nat → Prop} {w : World} {L : Lay} (h : LayX X w L) : LayAt w L := ⟨h.se.at_, h.po.at_, h.sg.at_, h.rt.at_, h.sn, h.pn, h.gn, fun r hr => (h.rn r hr).at_⟩
theorem LayX.step {X : Nat → Prop} {w w' : World} {L : Lay} (h : LayX X w L) (k : WX X w w') : LayX X w' L := ⟨h.se.step k, h.po.step k, h.sg.step k, h.rt.step k, h.sn, h.pn, h.gn, fun r hr => (h.rn r hr).step k⟩
theorem LayX.weak {X Y : Nat → Prop} {w : World} {L : Lay} (h : LayX X w L) (hy : ∀ b, b < w.heap.size → Y b → X b) : LayX Y w L := ⟨h.se.weak hy, h.po.weak hy, h.sg.weak hy, h.rt.weak hy, h.sn, h.pn, h.gn, fun r hr => (h.rn r hr).weak hy⟩
/-- what a route holds, wherever its rows lie -/
def rc (r : Rt) : BA × Int × List Int × List (Int × Bool) × List Int × List (Int × Bool) := (r.nm, r.sg, r.pa.l, r.po.l, r.ov.l, r.fl.l)
/-- two layouts hold the same -/
structure SameLay (L M : Lay) : Prop where
 se : M.se.l = L.se.l
 po : M.po.l = L.po.l
 sg : M.sg.l = L.sg.l
 rt : M.rt.l.map rc = L.rt.l.map rc
theorem rt_one (c : Rt) : ∀ u ∈ rtC c, u.oneCell' = true := by
 intro u h; simp [rtC, Sl.v] at h
 rcases h with rfl | rfl | rfl | rfl | rfl | rfl <;> rfl
theorem pt_one (c : BA × Int) : ∀ u ∈ ptC c, u.oneCell' = true := by
 intro u h; simp [ptC] at h
 rcases h with rfl | rfl <;> rfl
/-- a source that is one block: the row of one element that a call hands over -/
theorem src_blk {w : World} {g : Nat} {cs : Array Value} {t : TypeId} {fr : Nat × Nat} {l : List Value} {c : Nat} (h : w.heap[g]? = some (.cells cs t fr)) (hl : cs.toList = l) (h1 : ∀ u ∈ l, u.oneCell' = true) : SrcAt w (some ⟨g, 0, none⟩) c l := by
 refine ⟨fun e => (by cases e), h1, fun ad had j u hu => ?_⟩
 injection had with had
 subst had
 rw [Addr.add_lit, Nat.zero_add]
 exact blk_cell h j u (by rw [← Array.getElem?_toList, hl]; exact hu)
end Go.Proofs.Ytjienmjpfklgeaa
namespace Go.Proofs.Ytjienmjpfklgeaa
open Go.RowKit
theorem info_pt : (Try.prog.info? 71).map (fun i => (i.zero, i.size, i.bytes)) = some (some (.agg #[.string ⟨#[]⟩, .int .i64 0]), 2, 24) := by kernel_rfl
theorem info_sg : (Try.prog.info? 72).map (fun i => (i.zero, i.size, i.bytes)) = some (some (.agg #[.string ⟨#[]⟩, .int .i64 0]), 2, 24) := by kernel_rfl
theorem info_rt : (Try.prog.info? 44).map (fun i => (i.zero, i.size, i.bytes)) = some (some (.agg #[.string ⟨#[]⟩, .int .i64 0, .slice none 0 0, .slice none 0 0, .slice none 0 0, .slice none 0 0]), 6, 120) := by kernel_rfl
/-- the blocks that Copy writes: its result's two, and the row of routes -/
def XC (gl gx go : Nat) (v : Value) : Nat → Prop := fun b => b = gx ∨ b = go ∨ v.ownBlock = some b ∨ b < gl
/-- the same, and one box more -/
def XD (gl gx go g6 : Nat) (v : Value) : Nat → Prop := fun b => b = gx ∨ b = go ∨ b = g6 ∨ v.ownBlock = some b ∨ b < gl
/-- what lies in memory at each route's turn -/
structure CpI (w wr : World) (gl go gx lo : Nat) (L : Lay) (S1 : Sl BA) (S2 S3 : Sl (BA × Int)) (v : Value) (k : Nat) (rs : List Rt) : Prop where
 lay : wr.heap[gl]? = some (.cells #[L.se.v, L.po.v, L.sg.v, L.rt.v] 27)
 out : wr.heap[gx]? = some (.cells #[S1.v, S2.v, S3.v, v] 27)
 res : wr.heap[go]? = some (.cells #[.slice none 0 0, .slice none 0 0, .slice none 0 0, .slice none 0 0] 27)
 own : wr.ownsRow lo 44 6 v k (rs.flatMap rtC)
 con : rs.map rc = (L.rt.l.take k).map rc
 rts : ∀ r ∈ rs, RtX (XC gl gx go v) wr r
 s1 : SlX 1 strC (XC gl gx go v) wr S1
 s2 : SlX 2 ptC (XC gl gx go v) wr S2
 s3 : SlX 2 ptC (XC gl gx go v) wr S3
 below : Below w.heap.size w wr
 big : lo ≤ wr.heap.size
theorem SlX.push {α : Type} {sz : Nat} {f : α → List Value} {gl gx go g6 : Nat} {v v' : Value} {WB W' WF : World} {s : Sl α} (h : SlX sz f (XD gl gx go g6 v) WB s) (hg : WB.grownBy W' v.ownBlock) (hn : Value.newOr WB v v') (hw : Only gx W' WF) : SlX sz f (XC gl gx go v') WF s := by
 have h1 : SlX sz f (fun b => XC gl gx go v b ∨ XC gl gx go v' b) WB s := h.weak (fun b hb hx => by
  rcases hx with (hx | hx | hx | hx) | (hx | hx | hx | hx)
  ·exact .inl hx
  ·exact .inr (.inl hx)
  ·exact .inr (.inr (.inr (.inl hx)))
  ·exact .inr (.inr (.inr (.inr hx)))
  ·exact .inl hx
  ·exact .inr (.inl hx)
  ·rcases hn with hn | ⟨k, hk, hle⟩
   ·exact .inr (.inr (.inr (.inl (hn ▸ hx))))
   ·rw [hx] at hk
    injection hk with hk
    omega
  ·exact .inr (.inr (.inr (.inr hx))))
 have h2 := h1.step (WX.of_grown hg (fun k hk => .inl (.inr (.inr (.inl hk)))))
 have h3 := h2.step (WX.of_only hw (.inl (.inl rfl)))
 exact h3.weak (fun b _ hx => .inr hx)
theorem RtX.push {gl gx go g6 : Nat} {v v' : Value} {WB W' WF : World} {r : Rt} (h : RtX (XD gl gx go g6 v) WB r) (hg : WB.grownBy W' v.ownBlock) (hn : Value.newOr WB v v') (hw : Only gx W' WF) : RtX (XC gl gx go v') WF r :=
 ⟨h.nm, h.pa.push hg hn hw, h.po.push hg hn hw, h.ov.push hg hn hw, h.fl.push hg hn hw⟩
theorem xd_weak {gl gx go g6 : Nat} {v : Value} {w : World} (h6 : w.heap.size ≤ g6) : ∀ b, b < w.heap.size → XD gl gx go g6 v b → XC gl gx go v b := by
 intro b hb hx
 rcases hx with hx | hx | hx | hx | hx
 ·exact .inl hx
 ·exact .inr (.inl hx)
 ·omega
 ·exact .inr (.inr (.inl hx))
 ·exact .inr (.inr (.inr hx))
theorem own_shape {w : World} {base : Nat} {e : TypeId} {sz : Nat} {v : Value} {n : Nat} {xs : List Value} (h : w.ownsRow base e sz v n xs) : ∃ a c, v = .slice a n c := by
 rcases h.2 with ⟨h1, h2⟩ | ⟨g, cap, cur, h1, _⟩
 ·exact ⟨none, 0, by rw [h1, h2]⟩
 ·exact ⟨_, _, h1⟩
attribute [local irreducible] Sl.v

set_option maxRecDepth 100000 in
set_option maxHeartbeats 8000000 in
theorem copy_bytes (L : Lay) (w : World) (hL : LayAt w L) (h1 : L.se.l.length * 16 ≤ 140737488355328) (h2 : L.po.l.length * 24 ≤ 140737488355328) (h3 : L.sg.l.length * 24 ≤ 140737488355328) (h4 : L.rt.l.length * 120 ≤ 140737488355328) (h5 : ∀ r ∈ L.rt.l, r.pa.l.length * 8 ≤ 140737488355328 ∧ r.po.l.length * 16 ≤ 140737488355328 ∧ r.ov.l.length * 8 ≤ 140737488355328 ∧ r.fl.l.length * 16 ≤ 140737488355328) :
 Calls Try.prog 9 #[.agg #[L.se.v, L.po.v, L.sg.v, L.rt.v]] w fun e w' => ∃ M, e = .returned (.agg #[M.se.v, M.po.v, M.sg.v, M.rt.v]) ∧ LayX (fun b => b < w.heap.size) w' M ∧ SameLay L M ∧ Below w.heap.size w w' := by
 have HA := Lib.hid hL
 have HH5 := Lib.hid h5
 have HS1 := Lib.hid (src_sl str_len str_one hL.se)
 have HS2 := Lib.hid (src_sl pt_len pt_one hL.po)
 have HS3 := Lib.hid (src_sl pt_len pt_one hL.sg)
 obtain ⟨i1, hi, hz0, hz1, hz2⟩ := info_parts info_str
 have HI1 := Lib.hid (And.intro hi (And.intro hz0 (And.intro hz1 hz2)))
 clear hi hz0 hz1 hz2
 obtain ⟨i2, hi, hz0, hz1, hz2⟩ := info_parts info_pt
 have HI2 := Lib.hid (And.intro hi (And.intro hz0 (And.intro hz1 hz2)))
 clear hi hz0 hz1 hz2
 obtain ⟨i3, hi, hz0, hz1, hz2⟩ := info_parts info_sg
 have HI3 := Lib.hid (And.intro hi (And.intro hz0 (And.intro hz1 hz2)))
 clear hi hz0 hz1 hz2
 obtain ⟨i4, hi, hz0, hz1, hz2⟩ := info_parts info_int
 have HI4 := Lib.hid (And.intro hi (And.intro hz0 (And.intro hz1 hz2)))
 clear hi hz0 hz1 hz2
 obtain ⟨i5, hi, hz0, hz1, hz2⟩ := info_parts info_nd
 have HI5 := Lib.hid (And.intro hi (And.intro hz0 (And.intro hz1 hz2)))
 clear hi hz0 hz1 hz2
 obtain ⟨i6, hi, hz0, hz1, hz2⟩ := info_parts info_rt
 have HI6 := Lib.hid (And.intro hi (And.intro hz0 (And.intro hz1 hz2)))
 clear hi hz0 hz1 hz2
 obtain ⟨n1, hn1⟩ : ∃ n, L.se.l.length = n := ⟨_, rfl⟩
 obtain ⟨n2, hn2⟩ : ∃ n, L.po.l.length = n := ⟨_, rfl⟩
 obtain ⟨n3, hn3⟩ : ∃ n, L.sg.l.length = n := ⟨_, rfl⟩
 obtain ⟨n4, hn4⟩ : ∃ n, L.rt.l.length = n := ⟨_, rfl⟩
 rw [hn1] at h1
 rw [hn2] at h2
 rw [hn3] at h3
 rw [hn4] at h4
 have HN := Lib.hid (And.intro hn1 (And.intro hn2 (And.intro hn3 hn4)))
 have HV := Lib.hid (And.intro (slv hn1) (And.intro (slv hn2) (And.intro (slv hn3) (slv hn4))))
 have HLE := Lib.hid (And.intro h1 (And.intro h2 (And.intro h3 h4)))
 rw [slv hn1, slv hn2, slv hn3, slv hn4]
 clear hn1 hn2 hn3 hn4 h1 h2 h3 h4 h5 hL
 go_enter Try.func9, Try.ntmps9
 go_upto_region 2 with fail
 refine name_last (os := [_, _, _]) (w0 := w) rfl ?_
 intro W0 hat hbw
 have q0 := hat 0 _ rfl
 have q1 := hat 1 _ rfl
 have q2 := hat 2 _ rfl
 obtain ⟨gl, hgl⟩ : ∃ g, g = w.heap.size := ⟨_, rfl⟩
 obtain ⟨go, hgo⟩ : ∃ g, g = gl + 1 := ⟨_, rfl⟩
 obtain ⟨gx, hgx⟩ : ∃ g, g = go + 1 := ⟨_, rfl⟩
 rw [show w.heap.size + 0 = gl by omega] at q0
 rw [show w.heap.size + 1 = go by omega] at q1
 rw [show w.heap.size + 2 = gx by omega] at q2
 rw [← hgl, ← hgo, ← hgx]
 have hlo0 : gx + 1 ≤ W0.heap.size := blk_lt q2
 obtain ⟨lo, hlo⟩ : ∃ g, g = gx + 1 := ⟨_, rfl⟩
 rw [← hlo] at hlo0
 have HG := Lib.hid (show gl = w.heap.size ∧ go = gl + 1 ∧ gx = go + 1 ∧ lo = gx + 1 from ⟨hgl, hgo, hgx, hlo⟩)
 have HQ0 := Lib.hid q0
 have HQ1 := Lib.hid q1
 have HQ2 := Lib.hid q2
 have HB := Lib.hid hbw
 have HLO := Lib.hid hlo0
 clear q0 q1 q2 hbw hlo0 hgl hgo hgx hlo hat
 have c0 := blk_cell HQ2.out 0 _ rfl
 have c1 := blk_cell HQ0.out 0 _ rfl
 go_upto_region 3 with (at_builtin; refine wpList_append_src rfl _ _ 22 rfl W0.heap.size 9 i1 (.string ⟨#[]⟩) 1 16 Try.underlying22 HI1.out.1 HI1.out.2.1 HI1.out.2.2.1 HI1.out.2.2.2 rfl (by decide) (.slice none 0 0) 0 [] rfl (World.ownsRow_nil _ _ _ _) L.se.a n1 L.se.c (L.se.l.flatMap strC) rfl (by rw [flat_len str_len, HN.out.1]) (srcAt_below HS1.out HB.out) (by have := HLE.out.1; unfold maxLen; omega) (by have := HLE.out.1; omega) (Nat.le_refl _) ?_; intro v9 W9 hown9 hg9; rw [List.nil_append, Nat.zero_add] at hown9; obtain ⟨x1a, x1c, rfl, hx1⟩ := own_slx (X := (XC gl gx go (.slice none 0 0))) str_len HN.out.1 hown9 (by intro b hb; have := HG.out; have := HLO.out; rcases hb with h | h | h | h <;> first | omega | cases h); have hB9 : Below W0.heap.size W0 W9 := (Below.refl _ W0).grown hg9 (Nat.le_refl _) (fun k hk => by cases hk); clear hown9 hg9; have q2 := blk_keep hB9 HQ2.out; have c2 := blk_cell q2 0 _ rfl; have c3 := blk_free q2 0; have HB9 := Lib.hid hB9; clear c0 c1 q2 hB9)
 clear c2 c3
 refine name_world05 ?_
 intro W1 hW
 have hwx : WX (XC gl gx go (.slice none 0 0)) W9 W1 := by rw [hW]; exact WX.set (.inl rfl) 0 _
 have q2 : W1.heap[gx]? = some (.cells #[.slice x1a n1 x1c, .slice none 0 0, .slice none 0 0, .slice none 0 0] 27) := by rw [hW]; exact blk_set (blk_keep HB9.out HQ2.out) 0 _
 have q0 := hwx.keep (k := gl) (by have := HG.out; intro h; rcases h with h | h | h | h <;> first | omega | cases h) (blk_keep HB9.out HQ0.out)
 have hwo : Only gx W9 W1 := by rw [hW]; exact (Only.refl gx W9).setCell rfl _
 have q1 := hwo.keep (k := go) (by have := HG.out; omega) (blk_keep HB9.out HQ1.out)
 have hb := Only.below (below_on HB.out HB9.out) (by have := HG.out; omega) (Nat.le_trans HB.out.size HB9.out.size) hwo
 have hl : lo ≤ W1.heap.size := Nat.le_trans HLO.out (Nat.le_trans HB9.out.size hwx.size)
 have s1 := hx1.step hwx
 clear HQ0 HQ1 HQ2 HB HLO HB9 hx1
 have HQ0 := Lib.hid q0
 have HQ1 := Lib.hid q1
 have HQ2 := Lib.hid q2
 have HB := Lib.hid hb
 have HLO := Lib.hid hl
 have HX1 := Lib.hid s1
 clear q0 q1 q2 hb hl hW hwx hwo s1
 have c0 := blk_cell HQ2.out 1 _ rfl
 have c1 := blk_cell HQ0.out 1 _ rfl
 go_upto_region 4 with (at_builtin; refine wpList_append_src rfl _ _ 23 rfl W1.heap.size 71 i2 (.agg #[.string ⟨#[]⟩, .int .i64 0]) 2 24 Try.underlying23 HI2.out.1 HI2.out.2.1 HI2.out.2.2.1 HI2.out.2.2.2 rfl (by decide) (.slice none 0 0) 0 [] rfl (World.ownsRow_nil _ _ _ _) L.po.a n2 L.po.c (L.po.l.flatMap ptC) rfl (by rw [flat_len pt_len, HN.out.2.1]) (srcAt_below HS2.out HB.out) (by have := HLE.out.2.1; unfold maxLen; omega) (by have := HLE.out.2.1; omega) (Nat.le_refl _) ?_; intro v9 W9 hown9 hg9; rw [List.nil_append, Nat.zero_add] at hown9; obtain ⟨x2a, x2c, rfl, hx2⟩ := own_slx (X := (XC gl gx go (.slice none 0 0))) pt_len HN.out.2.1 hown9 (by intro b hb; have := HG.out; have := HLO.out; rcases hb with h | h | h | h <;> first | omega | cases h); have hB9 : Below W1.heap.size W1 W9 := (Below.refl _ W1).grown hg9 (Nat.le_refl _) (fun k hk => by cases hk); clear hown9 hg9; have q2 := blk_keep hB9 HQ2.out; have c2 := blk_cell q2 1 _ rfl; have c3 := blk_free q2 1; have HB9 := Lib.hid hB9; clear c0 c1 q2 hB9)
 clear c2 c3
 refine name_world05 ?_
 intro W2 hW
 have hwx : WX (XC gl gx go (.slice none 0 0)) W9 W2 := by rw [hW]; exact WX.set (.inl rfl) 1 _
 have q2 : W2.heap[gx]? = some (.cells #[.slice x1a n1 x1c, .slice x2a n2 x2c, .slice none 0 0, .slice none 0 0] 27) := by rw [hW]; exact blk_set (blk_keep HB9.out HQ2.out) 1 _
 have q0 := hwx.keep (k := gl) (by have := HG.out; intro h; rcases h with h | h | h | h <;> first | omega | cases h) (blk_keep HB9.out HQ0.out)
 have hwo : Only gx W9 W2 := by rw [hW]; exact (Only.refl gx W9).setCell rfl _
 have q1 := hwo.keep (k := go) (by have := HG.out; omega) (blk_keep HB9.out HQ1.out)
 have hb := Only.below (below_on HB.out HB9.out) (by have := HG.out; omega) (Nat.le_trans HB.out.size HB9.out.size) hwo
 have hl : lo ≤ W2.heap.size := Nat.le_trans HLO.out (Nat.le_trans HB9.out.size hwx.size)
 have s1 := (HX1.out.step (WX.of_below HB9.out)).step hwx
 have s2 := hx2.step hwx
 clear HQ0 HQ1 HQ2 HB HLO HB9 hx2 HX1
 have HQ0 := Lib.hid q0
 have HQ1 := Lib.hid q1
 have HQ2 := Lib.hid q2
 have HB := Lib.hid hb
 have HLO := Lib.hid hl
 have HX1 := Lib.hid s1
 have HX2 := Lib.hid s2
 clear q0 q1 q2 hb hl hW hwx hwo s1 s2
 have c0 := blk_cell HQ2.out 2 _ rfl
 have c1 := blk_cell HQ0.out 2 _ rfl
 go_upto_region 5 with (at_builtin; refine wpList_append_src rfl _ _ 24 rfl W2.heap.size 72 i3 (.agg #[.string ⟨#[]⟩, .int .i64 0]) 2 24 Try.underlying24 HI3.out.1 HI3.out.2.1 HI3.out.2.2.1 HI3.out.2.2.2 rfl (by decide) (.slice none 0 0) 0 [] rfl (World.ownsRow_nil _ _ _ _) L.sg.a n3 L.sg.c (L.sg.l.flatMap ptC) rfl (by rw [flat_len pt_len, HN.out.2.2.1]) (srcAt_below HS3.out HB.out) (by have := HLE.out.2.2.1; unfold maxLen; omega) (by have := HLE.out.2.2.1; omega) (Nat.le_refl _) ?_; intro v9 W9 hown9 hg9; rw [List.nil_append, Nat.zero_add] at hown9; obtain ⟨x3a, x3c, rfl, hx3⟩ := own_slx (X := (XC gl gx go (.slice none 0 0))) pt_len HN.out.2.2.1 hown9 (by intro b hb; have := HG.out; have := HLO.out; rcases hb with h | h | h | h <;> first | omega | cases h); have hB9 : Below W2.heap.size W2 W9 := (Below.refl _ W2).grown hg9 (Nat.le_refl _) (fun k hk => by cases hk); clear hown9 hg9; have q2 := blk_keep hB9 HQ2.out; have c2 := blk_cell q2 2 _ rfl; have c3 := blk_free q2 2; have HB9 := Lib.hid hB9; clear c0 c1 q2 hB9)
 clear c2 c3
 refine name_world05 ?_
 intro W3 hW
 have hwx : WX (XC gl gx go (.slice none 0 0)) W9 W3 := by rw [hW]; exact WX.set (.inl rfl) 2 _
 have q2 : W3.heap[gx]? = some (.cells #[.slice x1a n1 x1c, .slice x2a n2 x2c, .slice x3a n3 x3c, .slice none 0 0] 27) := by rw [hW]; exact blk_set (blk_keep HB9.out HQ2.out) 2 _
 have q0 := hwx.keep (k := gl) (by have := HG.out; intro h; rcases h with h | h | h | h <;> first | omega | cases h) (blk_keep HB9.out HQ0.out)
 have hwo : Only gx W9 W3 := by rw [hW]; exact (Only.refl gx W9).setCell rfl _
 have q1 := hwo.keep (k := go) (by have := HG.out; omega) (blk_keep HB9.out HQ1.out)
 have hb := Only.below (below_on HB.out HB9.out) (by have := HG.out; omega) (Nat.le_trans HB.out.size HB9.out.size) hwo
 have hl : lo ≤ W3.heap.size := Nat.le_trans HLO.out (Nat.le_trans HB9.out.size hwx.size)
 have s1 := (HX1.out.step (WX.of_below HB9.out)).step hwx
 have s2 := (HX2.out.step (WX.of_below HB9.out)).step hwx
 have s3 := hx3.step hwx
 clear HQ0 HQ1 HQ2 HB HLO HB9 hx3 HX1 HX2
 have HQ0 := Lib.hid q0
 have HQ1 := Lib.hid q1
 have HQ2 := Lib.hid q2
 have HB := Lib.hid hb
 have HLO := Lib.hid hl
 have HX1 := Lib.hid s1
 have HX2 := Lib.hid s2
 have HX3 := Lib.hid s3
 clear q0 q1 q2 hb hl hW hwx hwo s1 s2 s3
 have hcp : CpI w W3 gl go gx lo L ⟨x1a, x1c, L.se.l⟩ ⟨x2a, x2c, L.po.l⟩ ⟨x3a, x3c, L.sg.l⟩ (.slice none 0 0) 0 [] := by
  obtain ⟨v1, v2, v3, v4⟩ := HV.out
  refine ⟨by rw [v1, v2, v3, v4]; exact HQ0.out, ?_, HQ1.out, World.ownsRow_nil _ _ _ _, rfl, (by intro r hr; cases hr), HX1.out, HX2.out, HX3.out, HB.out, HLO.out⟩
  rw [slv2 HN.out.1, slv2 HN.out.2.1, slv2 HN.out.2.2.1]
  exact HQ2.out
 have HC := Lib.hid hcp
 clear hcp HQ0 HQ1 HQ2 HX1 HX2 HX3 HB HLO HS1 HS2 HS3
 have HO1 : Hid (∀ (W : World) v k rs, CpI w W gl go gx lo L ⟨x1a, x1c, L.se.l⟩ ⟨x2a, x2c, L.po.l⟩ ⟨x3a, x3c, L.sg.l⟩ v k rs → W.heap[gx]? = some (.cells #[.slice x1a n1 x1c, .slice x2a n2 x2c, .slice x3a n3 x3c, v] 27) ∧ W.heap[gl]? = some (.cells #[.slice L.se.a n1 L.se.c, .slice L.po.a n2 L.po.c, .slice L.sg.a n3 L.sg.c, .slice L.rt.a n4 L.rt.c] 27)) := Lib.hid (fun W v k rs h => by
  have a := h.out
  have b := h.lay
  obtain ⟨v1, v2, v3, v4⟩ := HV.out
  rw [slv2 HN.out.1, slv2 HN.out.2.1, slv2 HN.out.2.2.1] at a
  rw [v1, v2, v3, v4] at b
  exact ⟨a, b⟩)
 go_upto_region 6 with fail
 clear HI1 HI2 HI3
 go_loopg [4, 5, 6] n4 (fun g i _ _ wr => ∃ (k : Nat) (v : Value) (rs : List Rt), k + g = n4 ∧ i = .int .i64 (k : Int) ∧ CpI w wr gl go gx lo L ⟨x1a, x1c, L.se.l⟩ ⟨x2a, x2c, L.po.l⟩ ⟨x3a, x3c, L.sg.l⟩ v k rs)
 case atStart => exact ⟨0, _, [], by omega, rfl, HC.out⟩
 case round =>
  obtain ⟨k, v, rs, hk, rfl, hcp⟩ := hrel
  clear HC
  have HC := Lib.hid hcp
  have l3 := blk_cell (HO1.out _ _ _ _ hcp).2 3 _ rfl
  by_cases hlt : k < n4
  ·obtain ⟨y, hy⟩ : ∃ y, L.rt.l[k]? = some y := ⟨_, List.getElem?_eq_getElem (by rw [HN.out.2.2.2]; exact hlt)⟩
   have HY := Lib.hid hy
   have hr := HA.out.rn y (List.mem_of_getElem? hy)
   have hle := HH5.out y (List.mem_of_getElem? hy)
   rcases HA.out.rt.row.below hcp.below with hnil | ⟨xb, off, hxb, hc⟩
   ·rw [hnil] at hy; simp at hy
   have z0 := hc k _ hy 0 _ rfl
   have z1 := hc k _ hy 1 _ rfl
   have z2 := hc k _ hy 2 _ rfl
   have z3 := hc k _ hy 3 _ rfl
   have z4 := hc k _ hy 4 _ rfl
   have z5 := hc k _ hy 5 _ rfl
   rw [Nat.add_zero] at z0
   have HSP := Lib.hid (src_sl int_len int_one hr.pa)
   have HSQ := Lib.hid (src_sl nd_len nd_one hr.po)
   have HSR := Lib.hid (src_sl int_len int_one hr.ov)
   have HSF := Lib.hid (src_sl nd_len nd_one hr.fl)
   have HRN := Lib.hid hr.nm
   obtain ⟨m1, hm1⟩ : ∃ n, y.pa.l.length = n := ⟨_, rfl⟩
   obtain ⟨m2, hm2⟩ : ∃ n, y.po.l.length = n := ⟨_, rfl⟩
   obtain ⟨m3, hm3⟩ : ∃ n, y.ov.l.length = n := ⟨_, rfl⟩
   obtain ⟨m4, hm4⟩ : ∃ n, y.fl.l.length = n := ⟨_, rfl⟩
   rw [slv hm1] at z2
   rw [slv hm2] at z3
   rw [slv hm3] at z4
   rw [slv hm4] at z5
   rw [hm1, hm2, hm3, hm4] at hle
   have HM := Lib.hid (And.intro hm1 (And.intro hm2 (And.intro hm3 hm4)))
   have HML := Lib.hid hle
   have d1 : (0 : Int) ≤ k := by omega
   have d2 : (k : Int) < n4 := by omega
   have e0 : wrap64 ((k : Int) + 1) = (k : Int) + 1 := by have := HLE.out; unfold wrap64; omega
   have HK := Lib.hid hk
   have HLT := Lib.hid hlt
   obtain ⟨x, hx⟩ : ∃ x, L.rt.a = x := ⟨_, rfl⟩
   have HXX := Lib.hid hx
   rw [hx] at l3 hxb ⊢
   subst hxb
   clear hc hy hr hle hm1 hm2 hm3 hm4 hk hlt hx hcp
   have at_ := allocs_at [.cells #[.string y.nm, .int .i64 y.sg, .slice y.pa.a m1 y.pa.c, .slice y.po.a m2 y.po.c, .slice y.ov.a m3 y.ov.c, .slice y.fl.a m4 y.fl.c] 44, .cells #[.string y.nm, .int .i64 y.sg, .slice none 0 0, .slice none 0 0, .slice none 0 0, .slice none 0 0] 44] wr
   have bl_ := allocs_below [.cells #[.string y.nm, .int .i64 y.sg, .slice y.pa.a m1 y.pa.c, .slice y.po.a m2 y.po.c, .slice y.ov.a m3 y.ov.c, .slice y.fl.a m4 y.fl.c] 44, .cells #[.string y.nm, .int .i64 y.sg, .slice none 0 0, .slice none 0 0, .slice none 0 0, .slice none 0 0] 44] wr
   obtain ⟨WA, hWA⟩ : ∃ W, W = (wr.alloc (.cells #[.string y.nm, .int .i64 y.sg, .slice y.pa.a m1 y.pa.c, .slice y.po.a m2 y.po.c, .slice y.ov.a m3 y.ov.c, .slice y.fl.a m4 y.fl.c] 44)).alloc (.cells #[.string y.nm, .int .i64 y.sg, .slice none 0 0, .slice none 0 0, .slice none 0 0, .slice none 0 0] 44) := ⟨_, rfl⟩
   rw [show List.foldl World.alloc wr [.cells #[.string y.nm, .int .i64 y.sg, .slice y.pa.a m1 y.pa.c, .slice y.po.a m2 y.po.c, .slice y.ov.a m3 y.ov.c, .slice y.fl.a m4 y.fl.c] 44, .cells #[.string y.nm, .int .i64 y.sg, .slice none 0 0, .slice none 0 0, .slice none 0 0, .slice none 0 0] 44] = WA by rw [hWA]; rfl] at at_ bl_
   have q5 := at_ 0 _ rfl
   have q6 := at_ 1 _ rfl
   rw [Nat.add_zero] at q5
   obtain ⟨g5, hg5⟩ : ∃ g, g = wr.heap.size := ⟨_, rfl⟩
   obtain ⟨g6, hg6⟩ : ∃ g, g = g5 + 1 := ⟨_, rfl⟩
   rw [← hg5] at q5
   rw [← hg5, ← hg6] at q6
   have HGG := Lib.hid (show g5 = wr.heap.size ∧ g6 = wr.heap.size + 1 ∧ lo ≤ wr.heap.size by have := HC.out.big; omega)
   have HWA := Lib.hid hWA
   have HG5 := Lib.hid hg5
   have HG6 := Lib.hid hg6
   have HQ5 := Lib.hid q5
   have HQ6 := Lib.hid q6
   have HBL := Lib.hid bl_
   clear at_ bl_ q5 q6 hWA hg5 hg6
   go_upto_region 10 with fail
   rw [← HWA.out, ← HG5.out, ← HG6.out]
   clear z0 z1 z2 z3 z4 z5 l3 HG5 HG6 HWA
   have HWX : Hid (WX (fun b => b = g6) WA WA) := Lib.hid (WX.refl _ _)
   have HBW : Hid (Below w.heap.size w WA) := Lib.hid (below_on HC.out.below HBL.out)
   have c0 := blk_cell HQ6.out 2 _ rfl
   have c1 := blk_cell HQ5.out 2 _ rfl
   go_upto_region 11 with (at_builtin; refine wpList_append_src rfl _ _ 41 rfl WA.heap.size 3 i4 (.int .i64 0) 1 8 Try.underlying41 HI4.out.1 HI4.out.2.1 HI4.out.2.2.1 HI4.out.2.2.2 rfl (by decide) (.slice none 0 0) 0 [] rfl (World.ownsRow_nil _ _ _ _) y.pa.a m1 y.pa.c (y.pa.l.flatMap intC) rfl (by rw [flat_len int_len, HM.out.1]) (srcAt_below HSP.out HBW.out) (by have := HML.out; unfold maxLen; omega) (by have := HML.out; omega) (Nat.le_refl _) ?_; intro v9 W9 hown9 hg9; rw [List.nil_append, Nat.zero_add] at hown9; obtain ⟨p1a, p1c, rfl, hp1⟩ := own_slx (X := (XD gl gx go g6 v)) int_len HM.out.1 hown9 (by intro b hb; have := HGG.out; have := HG.out; have := HBL.out.size; have := HWX.out.size; have := blk_lt HQ6.out; rcases hb with h | h | h | h | h; (first | omega); (first | omega); (first | omega); (have := (HC.out.own.lt b h).2; omega); (first | omega)); have hB9 : Below WA.heap.size WA W9 := (Below.refl _ WA).grown hg9 (Nat.le_refl _) (fun k hk => by cases hk); clear hown9 hg9; have q6 := blk_keep hB9 HQ6.out; have c2 := blk_cell q6 2 _ rfl; have c3 := blk_free q6 2; have HB9 := Lib.hid hB9; clear c0 c1 q6 hB9)
   clear c2 c3
   refine name_world05 ?_
   intro WF1 hW
   have hwx : WX (fun b => b = g6) W9 WF1 := by rw [hW]; exact WX.set (X := fun b => b = g6) rfl 2 _
   have q6 : WF1.heap[g6]? = some (.cells #[.string y.nm, .int .i64 y.sg, .slice p1a m1 p1c, .slice none 0 0, .slice none 0 0, .slice none 0 0] 44) := by rw [hW]; exact blk_set (blk_keep HB9.out HQ6.out) 2 _
   have q5 := hwx.keep (k := g5) (by have := HGG.out; omega) (blk_keep HB9.out HQ5.out)
   have hwt := (HWX.out.trans (WX.of_below HB9.out)).trans hwx
   have hbw := WX.below (below_on HBW.out HB9.out) hwx (by have := HGG.out; have := HC.out.below.size; intro b h; omega)
   have hwd : WX (XD gl gx go g6 v) W9 WF1 := hwx.mono (fun b hb => .inr (.inr (.inl hb)))
   have s1 := hp1.step hwd
   clear HQ5 HQ6 HWX HBW HB9 hp1
   have HQ5 := Lib.hid q5
   have HQ6 := Lib.hid q6
   have HWX := Lib.hid hwt
   have HBW := Lib.hid hbw
   have HP1 := Lib.hid s1
   clear q5 q6 hwt hbw hW hwx hwd s1
   have c0 := blk_cell HQ6.out 3 _ rfl
   have c1 := blk_cell HQ5.out 3 _ rfl
   go_upto_region 12 with (at_builtin; refine wpList_append_src rfl _ _ 42 rfl WF1.heap.size 46 i5 (.agg #[.int .i64 0, .bool false]) 2 16 Try.underlying42 HI5.out.1 HI5.out.2.1 HI5.out.2.2.1 HI5.out.2.2.2 rfl (by decide) (.slice none 0 0) 0 [] rfl (World.ownsRow_nil _ _ _ _) y.po.a m2 y.po.c (y.po.l.flatMap ndC) rfl (by rw [flat_len nd_len, HM.out.2.1]) (srcAt_below HSQ.out HBW.out) (by have := HML.out; unfold maxLen; omega) (by have := HML.out; omega) (Nat.le_refl _) ?_; intro v9 W9 hown9 hg9; rw [List.nil_append, Nat.zero_add] at hown9; obtain ⟨p2a, p2c, rfl, hp2⟩ := own_slx (X := (XD gl gx go g6 v)) nd_len HM.out.2.1 hown9 (by intro b hb; have := HGG.out; have := HG.out; have := HBL.out.size; have := HWX.out.size; have := blk_lt HQ6.out; rcases hb with h | h | h | h | h; (first | omega); (first | omega); (first | omega); (have := (HC.out.own.lt b h).2; omega); (first | omega)); have hB9 : Below WF1.heap.size WF1 W9 := (Below.refl _ WF1).grown hg9 (Nat.le_refl _) (fun k hk => by cases hk); clear hown9 hg9; have q6 := blk_keep hB9 HQ6.out; have c2 := blk_cell q6 3 _ rfl; have c3 := blk_free q6 3; have HB9 := Lib.hid hB9; clear c0 c1 q6 hB9)
   clear c2 c3
   refine name_world05 ?_
   intro WF2 hW
   have hwx : WX (fun b => b = g6) W9 WF2 := by rw [hW]; exact WX.set (X := fun b => b = g6) rfl 3 _
   have q6 : WF2.heap[g6]? = some (.cells #[.string y.nm, .int .i64 y.sg, .slice p1a m1 p1c, .slice p2a m2 p2c, .slice none 0 0, .slice none 0 0] 44) := by rw [hW]; exact blk_set (blk_keep HB9.out HQ6.out) 3 _
   have q5 := hwx.keep (k := g5) (by have := HGG.out; omega) (blk_keep HB9.out HQ5.out)
   have hwt := (HWX.out.trans (WX.of_below HB9.out)).trans hwx
   have hbw := WX.below (below_on HBW.out HB9.out) hwx (by have := HGG.out; have := HC.out.below.size; intro b h; omega)
   have hwd : WX (XD gl gx go g6 v) W9 WF2 := hwx.mono (fun b hb => .inr (.inr (.inl hb)))
   have s1 := (HP1.out.step (WX.of_below HB9.out)).step hwd
   have s2 := hp2.step hwd
   clear HQ5 HQ6 HWX HBW HB9 hp2 HP1
   have HQ5 := Lib.hid q5
   have HQ6 := Lib.hid q6
   have HWX := Lib.hid hwt
   have HBW := Lib.hid hbw
   have HP1 := Lib.hid s1
   have HP2 := Lib.hid s2
   clear q5 q6 hwt hbw hW hwx hwd s1 s2
   have c0 := blk_cell HQ6.out 4 _ rfl
   have c1 := blk_cell HQ5.out 4 _ rfl
   go_upto_region 13 with (at_builtin; refine wpList_append_src rfl _ _ 41 rfl WF2.heap.size 3 i4 (.int .i64 0) 1 8 Try.underlying41 HI4.out.1 HI4.out.2.1 HI4.out.2.2.1 HI4.out.2.2.2 rfl (by decide) (.slice none 0 0) 0 [] rfl (World.ownsRow_nil _ _ _ _) y.ov.a m3 y.ov.c (y.ov.l.flatMap intC) rfl (by rw [flat_len int_len, HM.out.2.2.1]) (srcAt_below HSR.out HBW.out) (by have := HML.out; unfold maxLen; omega) (by have := HML.out; omega) (Nat.le_refl _) ?_; intro v9 W9 hown9 hg9; rw [List.nil_append, Nat.zero_add] at hown9; obtain ⟨p3a, p3c, rfl, hp3⟩ := own_slx (X := (XD gl gx go g6 v)) int_len HM.out.2.2.1 hown9 (by intro b hb; have := HGG.out; have := HG.out; have := HBL.out.size; have := HWX.out.size; have := blk_lt HQ6.out; rcases hb with h | h | h | h | h; (first | omega); (first | omega); (first | omega); (have := (HC.out.own.lt b h).2; omega); (first | omega)); have hB9 : Below WF2.heap.size WF2 W9 := (Below.refl _ WF2).grown hg9 (Nat.le_refl _) (fun k hk => by cases hk); clear hown9 hg9; have q6 := blk_keep hB9 HQ6.out; have c2 := blk_cell q6 4 _ rfl; have c3 := blk_free q6 4; have HB9 := Lib.hid hB9; clear c0 c1 q6 hB9)
   clear c2 c3
   refine name_world05 ?_
   intro WF3 hW
   have hwx : WX (fun b => b = g6) W9 WF3 := by rw [hW]; exact WX.set (X := fun b => b = g6) rfl 4 _
   have q6 : WF3.heap[g6]? = some (.cells #[.string y.nm, .int .i64 y.sg, .slice p1a m1 p1c, .slice p2a m2 p2c, .slice p3a m3 p3c, .slice none 0 0] 44) := by rw [hW]; exact blk_set (blk_keep HB9.out HQ6.out) 4 _
   have q5 := hwx.keep (k := g5) (by have := HGG.out; omega) (blk_keep HB9.out HQ5.out)
   have hwt := (HWX.out.trans (WX.of_below HB9.out)).trans hwx
   have hbw := WX.below (below_on HBW.out HB9.out) hwx (by have := HGG.out; have := HC.out.below.size; intro b h; omega)
   have hwd : WX (XD gl gx go g6 v) W9 WF3 := hwx.mono (fun b hb => .inr (.inr (.inl hb)))
   have s1 := (HP1.out.step (WX.of_below HB9.out)).step hwd
   have s2 := (HP2.out.step (WX.of_below HB9.out)).step hwd
   have s3 := hp3.step hwd
   clear HQ5 HQ6 HWX HBW HB9 hp3 HP1 HP2
   have HQ5 := Lib.hid q5
   have HQ6 := Lib.hid q6
   have HWX := Lib.hid hwt
   have HBW := Lib.hid hbw
   have HP1 := Lib.hid s1
   have HP2 := Lib.hid s2
   have HP3 := Lib.hid s3
   clear q5 q6 hwt hbw hW hwx hwd s1 s2 s3
   have c0 := blk_cell HQ6.out 5 _ rfl
   have c1 := blk_cell HQ5.out 5 _ rfl
   go_upto_region 14 with (at_builtin; refine wpList_append_src rfl _ _ 42 rfl WF3.heap.size 46 i5 (.agg #[.int .i64 0, .bool false]) 2 16 Try.underlying42 HI5.out.1 HI5.out.2.1 HI5.out.2.2.1 HI5.out.2.2.2 rfl (by decide) (.slice none 0 0) 0 [] rfl (World.ownsRow_nil _ _ _ _) y.fl.a m4 y.fl.c (y.fl.l.flatMap ndC) rfl (by rw [flat_len nd_len, HM.out.2.2.2]) (srcAt_below HSF.out HBW.out) (by have := HML.out; unfold maxLen; omega) (by have := HML.out; omega) (Nat.le_refl _) ?_; intro v9 W9 hown9 hg9; rw [List.nil_append, Nat.zero_add] at hown9; obtain ⟨p4a, p4c, rfl, hp4⟩ := own_slx (X := (XD gl gx go g6 v)) nd_len HM.out.2.2.2 hown9 (by intro b hb; have := HGG.out; have := HG.out; have := HBL.out.size; have := HWX.out.size; have := blk_lt HQ6.out; rcases hb with h | h | h | h | h; (first | omega); (first | omega); (first | omega); (have := (HC.out.own.lt b h).2; omega); (first | omega)); have hB9 : Below WF3.heap.size WF3 W9 := (Below.refl _ WF3).grown hg9 (Nat.le_refl _) (fun k hk => by cases hk); clear hown9 hg9; have q6 := blk_keep hB9 HQ6.out; have c2 := blk_cell q6 5 _ rfl; have c3 := blk_free q6 5; have HB9 := Lib.hid hB9; clear c0 c1 q6 hB9)
   clear c2 c3
   refine name_world05 ?_
   intro WF4 hW
   have hwx : WX (fun b => b = g6) W9 WF4 := by rw [hW]; exact WX.set (X := fun b => b = g6) rfl 5 _
   have q6 : WF4.heap[g6]? = some (.cells #[.string y.nm, .int .i64 y.sg, .slice p1a m1 p1c, .slice p2a m2 p2c, .slice p3a m3 p3c, .slice p4a m4 p4c] 44) := by rw [hW]; exact blk_set (blk_keep HB9.out HQ6.out) 5 _
   have q5 := hwx.keep (k := g5) (by have := HGG.out; omega) (blk_keep HB9.out HQ5.out)
   have hwt := (HWX.out.trans (WX.of_below HB9.out)).trans hwx
   have hbw := WX.below (below_on HBW.out HB9.out) hwx (by have := HGG.out; have := HC.out.below.size; intro b h; omega)
   have hwd : WX (XD gl gx go g6 v) W9 WF4 := hwx.mono (fun b hb => .inr (.inr (.inl hb)))
   have s1 := (HP1.out.step (WX.of_below HB9.out)).step hwd
   have s2 := (HP2.out.step (WX.of_below HB9.out)).step hwd
   have s3 := (HP3.out.step (WX.of_below HB9.out)).step hwd
   have s4 := hp4.step hwd
   clear HQ5 HQ6 HWX HBW HB9 hp4 HP1 HP2 HP3
   have HQ5 := Lib.hid q5
   have HQ6 := Lib.hid q6
   have HWX := Lib.hid hwt
   have HBW := Lib.hid hbw
   have HP1 := Lib.hid s1
   have HP2 := Lib.hid s2
   have HP3 := Lib.hid s3
   have HP4 := Lib.hid s4
   clear q5 q6 hwt hbw hW hwx hwd s1 s2 s3 s4
   have qx := HWX.out.keep (k := gx) (by have := HGG.out; have := HG.out; omega) (blk_keep HBL.out (HO1.out _ _ _ _ HC.out).1)
   have c0 := blk_cell qx 3 _ rfl
   have c20 := blk_cell HQ6.out 0 _ rfl
   have c21 := blk_cell HQ6.out 1 _ rfl
   have c22 := blk_cell HQ6.out 2 _ rfl
   have c23 := blk_cell HQ6.out 3 _ rfl
   have c24 := blk_cell HQ6.out 4 _ rfl
   have c25 := blk_cell HQ6.out 5 _ rfl
   have hown := HWX.out.own (WX.own (X := fun _ => False) (WX.of_below HBL.out) HC.out.own (fun _ _ h => h)) (fun b hb => by have := (HC.out.own.lt b hb).2; have := HGG.out; omega)
   have hown := WX.own (X := fun _ => False) (WX.of_below (below1 WF4 (.cells #[.string y.nm, .int .i64 y.sg, .slice p1a m1 p1c, .slice p2a m2 p2c, .slice p3a m3 p3c, .slice p4a m4 p4c] 44))) hown (fun _ _ h => h)
   have hrow := alloc1 WF4 (.cells #[.string y.nm, .int .i64 y.sg, .slice p1a m1 p1c, .slice p2a m2 p2c, .slice p3a m3 p3c, .slice p4a m4 p4c] 44) (Below.refl _ _)
   have hqx := blk_keep (below1 WF4 (.cells #[.string y.nm, .int .i64 y.sg, .slice p1a m1 p1c, .slice p2a m2 p2c, .slice p3a m3 p3c, .slice p4a m4 p4c] 44)) qx
   obtain ⟨WB, hWB⟩ : ∃ W, W = WF4.alloc (.cells #[.string y.nm, .int .i64 y.sg, .slice p1a m1 p1c, .slice p2a m2 p2c, .slice p3a m3 p3c, .slice p4a m4 p4c] 44) := ⟨_, rfl⟩
   have HBB : Hid (Below WF4.heap.size WF4 WB) := Lib.hid (by rw [hWB]; exact below1 _ _)
   rw [← hWB] at hown hrow hqx
   have HWB := Lib.hid hWB
   have HOWN := Lib.hid hown
   have HQX := Lib.hid hqx
   have HSRC : Hid (SrcAt WB (some ⟨WF4.heap.size, 0, none⟩) 1 ([(⟨y.nm, y.sg, ⟨p1a, p1c, y.pa.l⟩, ⟨p2a, p2c, y.po.l⟩, ⟨p3a, p3c, y.ov.l⟩, ⟨p4a, p4c, y.fl.l⟩⟩ : Rt)].flatMap rtC)) := Lib.hid (src_blk hrow (by
    show [_, _, _, _, _, _] = [Value.string y.nm, .int .i64 y.sg, Sl.v ⟨p1a, p1c, y.pa.l⟩, Sl.v ⟨p2a, p2c, y.po.l⟩, Sl.v ⟨p3a, p3c, y.ov.l⟩, Sl.v ⟨p4a, p4c, y.fl.l⟩]
    rw [slv2 HM.out.1, slv2 HM.out.2.1, slv2 HM.out.2.2.1, slv2 HM.out.2.2.2]) (by
    intro u hu
    obtain ⟨c, _, hc⟩ := List.mem_flatMap.1 hu
    exact rt_one c u hc))
   have HBB2 : Hid (lo ≤ WB.heap.size) := Lib.hid (by have := HGG.out; have := HBL.out.size; have := HWX.out.size; have := HBB.out.size; omega)
   clear hWB hown hrow hqx qx
   go_upto_region 7 with (at_builtin; rw [← HWB.out]; refine wpList_append_src3 rfl _ _ 25 rfl lo 44 i6 (.agg #[.string ⟨#[]⟩, .int .i64 0, .slice none 0 0, .slice none 0 0, .slice none 0 0, .slice none 0 0]) 6 120 Try.underlying25 HI6.out.1 HI6.out.2.1 HI6.out.2.2.1 HI6.out.2.2.2 rfl (by decide) v k (rs.flatMap rtC) rfl HOWN.out (some ⟨WF4.heap.size, 0, none⟩) 1 1 ([(⟨y.nm, y.sg, ⟨p1a, p1c, y.pa.l⟩, ⟨p2a, p2c, y.po.l⟩, ⟨p3a, p3c, y.ov.l⟩, ⟨p4a, p4c, y.fl.l⟩⟩ : Rt)].flatMap rtC) rfl rfl HSRC.out (by have := HLE.out; have := HLT.out; unfold maxLen; omega) (by have := HLE.out; have := HLT.out; omega) HBB2.out ?_; intro v9 W9 hown9 hg9 hn9; rw [← List.flatMap_append] at hown9; obtain ⟨ra, rcap, hv9⟩ := own_shape hown9; subst hv9; have q9 := WX.keep (X := fun b => v.ownBlock = some b) (WX.of_grown hg9 (fun _ h => h)) (fun h => by have := (HC.out.own.lt gx h).1; have := HG.out; omega) HQX.out; have c2 := blk_cell q9 3 _ rfl; have c3 := blk_free q9 3; have HOWN9 := Lib.hid hown9; have HG9 := Lib.hid hg9; have HN9 := Lib.hid hn9; have HQ9 := Lib.hid q9; clear hown9 hg9 hn9 q9 c0 c20 c21 c22 c23 c24 c25)
   clear c2 c3
   refine name_world05 ?_
   intro WE hW
   have ho : Only gx W9 WE := by rw [hW]; exact (Only.refl gx W9).setCell rfl _
   have hq : WE.heap[gx]? = some (.cells #[.slice x1a n1 x1c, .slice x2a n2 x2c, .slice x3a n3 x3c, .slice ra (k + 1) rcap] 27) := by rw [hW]; exact blk_set HQ9.out 3 _
   have hvb : ∀ b, v.ownBlock = some b → lo ≤ b ∧ b < wr.heap.size := HC.out.own.lt
   have hbig := HGG.out
   have hgs := HG.out
   have hb9 := (Below.grown (below_on HBW.out HBB.out) HG9.out (Nat.le_trans HBW.out.size HBB.out.size) (fun b hb => by have := (hvb b hb).1; omega))
   have HC2 : CpI w WE gl go gx lo L ⟨x1a, x1c, L.se.l⟩ ⟨x2a, x2c, L.po.l⟩ ⟨x3a, x3c, L.sg.l⟩ (.slice ra (k + 1) rcap) (k + 1) (rs ++ [⟨y.nm, y.sg, ⟨p1a, p1c, y.pa.l⟩, ⟨p2a, p2c, y.po.l⟩, ⟨p3a, p3c, y.ov.l⟩, ⟨p4a, p4c, y.fl.l⟩⟩]) := by
    have kp : ∀ (b : Nat) (o : Obj), b < wr.heap.size → b ≠ gx → v.ownBlock ≠ some b → wr.heap[b]? = some o → WE.heap[b]? = some o := fun b o h1 h2 h3 h4 => by
     refine ho.keep h2 ?_
     refine WX.keep (X := fun b => v.ownBlock = some b) (WX.of_grown HG9.out (fun _ h => h)) h3 ?_
     exact blk_keep HBB.out (HWX.out.keep (by omega) (blk_keep HBL.out h4))
    have sx : ∀ {α : Type} {sz : Nat} {f : α → List Value} {s : Sl α}, SlX sz f (XC gl gx go v) wr s → SlX sz f (XC gl gx go (.slice ra (k + 1) rcap)) WE s := fun h =>
     ((((h.weak (xd_weak (g6 := g6) (by omega))).step (WX.of_below HBL.out)).step (HWX.out.mono (fun b hb => .inr (.inr (.inl hb))))).step (WX.of_below HBB.out)).push HG9.out HN9.out ho
    have sn : ∀ {α : Type} {sz : Nat} {f : α → List Value} {s : Sl α}, SlX sz f (XD gl gx go g6 v) WF4 s → SlX sz f (XC gl gx go (.slice ra (k + 1) rcap)) WE s := fun h =>
     (h.step (WX.of_below HBB.out)).push HG9.out HN9.out ho
    refine ⟨kp gl _ (blk_lt HC.out.lay) (by omega) (fun h => by have := hvb gl h; omega) HC.out.lay, ?_, kp go _ (blk_lt HC.out.res) (by omega) (fun h => by have := hvb go h; omega) HC.out.res, ?_, ?_, ?_, sx HC.out.s1, sx HC.out.s2, sx HC.out.s3, ?_, ?_⟩
    ·rw [slv2 HN.out.1, slv2 HN.out.2.1, slv2 HN.out.2.2.1]
     exact hq
    ·exact WX.own (X := fun b => b = gx) (WX.of_only ho rfl) HOWN9.out (fun b hb => by have := (HOWN9.out.lt b hb).1; omega)
    ·rw [List.map_append, HC.out.con, List.take_add_one, HY.out, List.map_append]
     rfl
    ·intro r hr
     rcases List.mem_append.1 hr with hr | hr
     ·have h := HC.out.rts r hr
      exact ⟨h.nm, sx h.pa, sx h.po, sx h.ov, sx h.fl⟩
     ·simp at hr
      subst hr
      exact ⟨HRN.out, sn HP1.out, sn HP2.out, sn HP3.out, sn HP4.out⟩
    ·exact Only.below hb9 (by omega) hb9.size ho
    ·exact Nat.le_trans HBB2.out (Nat.le_trans HG9.out.size ho.size)
   have HC2 := Lib.hid HC2
   clear ho hq hvb hbig hgs hb9 hW HC
   go_wp2_with fail
   rw [← HXX.out]
   go_roundg (n4 - (k + 1))
   case rel => exact ⟨k + 1, _, _, by have := HK.out; have := HLT.out; omega, by go_num, HC2.out⟩
   case measure => have := HK.out; have := HLT.out; omega
  ·have hkm : k = n4 := by omega
   obtain ⟨a4, c4, hv4⟩ := own_shape hcp.own
   subst hv4
   have d2 : ¬ (k : Int) < n4 := by omega
   have HKM := Lib.hid hkm
   have q2 := (HO1.out _ _ _ _ hcp).1
   have q1 := hcp.res
   have o0 := blk_cell q2 0 _ rfl
   have o1 := blk_cell q2 1 _ rfl
   have o2 := blk_cell q2 2 _ rfl
   have o3 := blk_cell q2 3 _ rfl
   have f0 := blk_cell q1 0 _ rfl
   have f1 := blk_cell q1 1 _ rfl
   have f2 := blk_cell q1 2 _ rfl
   have f3 := blk_cell q1 3 _ rfl
   have t0 := blk_free q1 0
   have t1 := blk_free q1 1
   have t2 := blk_free q1 2
   have t3 := blk_free q1 3
   clear hk hkm hlt hcp q1 q2
   go_wp2_with fail
   clear o0 o1 o2 o3 f0 f1 f2 f3 t0 t1 t2 t3
   refine name_any (w := ((((wr.setCell ⟨go, 0, none⟩ (.slice x1a n1 x1c)).setCell ⟨go, 1, none⟩ (.slice x2a n2 x2c)).setCell ⟨go, 2, none⟩ (.slice x3a n3 x3c)).setCell ⟨go, 3, none⟩ (.slice a4 k c4))) ?_
   intro WF hW
   have ho : Only go wr WF := by rw [hW]; exact ((((Only.refl go wr).setCell rfl _).setCell rfl _).setCell rfl _).setCell rfl _
   have hq : WF.heap[go]? = some (.cells #[.slice x1a n1 x1c, .slice x2a n2 x2c, .slice x3a n3 x3c, .slice a4 k c4] 27) := by rw [hW]; exact blk_set (blk_set (blk_set (blk_set HC.out.res 0 _) 1 _) 2 _) 3 _
   have e0 := blk_cell hq 0 _ rfl
   have e1 := blk_cell hq 1 _ rfl
   have e2 := blk_cell hq 2 _ rfl
   have e3 := blk_cell hq 3 _ rfl
   refine bodyPost_ret (v := .agg #[.slice x1a n1 x1c, .slice x2a n2 x2c, .slice x3a n3 x3c, .slice a4 k c4]) (by simp [results, Try.results9, go_sem, e0, e1, e2, e3]) rfl ?_
   have hgs := HG.out
   have hkm := HKM.out
   have hlen : rs.length = k := by
    have h := congrArg List.length HC.out.con
    rw [List.length_map, List.length_map, List.length_take, HN.out.2.2.2] at h
    omega
   have hown := WX.own (X := fun b => b = go) (WX.of_only ho rfl) HC.out.own (fun b hb => by have := (HC.out.own.lt b hb).1; omega)
   obtain ⟨a5, c5, hv5, hs4⟩ := own_sl rt_len hlen hown
   injection hv5 with h51 _ h52
   subst h51
   subst h52
   have hwx : WX (XC gl gx go (.slice a4 k c4)) wr WF := WX.of_only ho (.inr (.inl rfl))
   have sw : ∀ {α : Type} {sz : Nat} {f : α → List Value} {s : Sl α}, SlX sz f (XC gl gx go (.slice a4 k c4)) wr s → SlX sz f (fun b => b < w.heap.size) WF s := fun h => (h.step hwx).weak (fun b _ hb => .inr (.inr (.inr (by omega))))
   have hs5 : SlX 6 rtC (fun b => b < w.heap.size) WF ⟨a4, c4, rs⟩ := by
    refine ⟨hs4, ?_, own_fr hlen rfl hown⟩
    rcases hs4.row with h0 | ⟨b, off, hb, _⟩
    ·exact .inl h0
    ·have := hown.lt b (by dsimp only at hb; rw [hb]; rfl)
     exact .inr ⟨b, off, hb, this.2, by omega⟩
   refine ⟨⟨⟨x1a, x1c, L.se.l⟩, ⟨x2a, x2c, L.po.l⟩, ⟨x3a, x3c, L.sg.l⟩, ⟨a4, c4, rs⟩⟩, ?_, ⟨sw HC.out.s1, sw HC.out.s2, sw HC.out.s3, hs5, HA.out.sn, HA.out.pn, HA.out.gn, fun r hr => (have h := HC.out.rts r hr; ⟨h.nm, sw h.pa, sw h.po, sw h.ov, sw h.fl⟩)⟩, ⟨rfl, rfl, rfl, ?_⟩, ?_⟩
   ·show _ = Ending.returned (.agg #[Sl.v ⟨x1a, x1c, L.se.l⟩, Sl.v ⟨x2a, x2c, L.po.l⟩, Sl.v ⟨x3a, x3c, L.sg.l⟩, Sl.v ⟨a4, c4, rs⟩])
    rw [slv2 HN.out.1, slv2 HN.out.2.1, slv2 HN.out.2.2.1, slv2 hlen]
   ·show rs.map rc = L.rt.l.map rc
    rw [HC.out.con, List.take_of_length_le (by rw [HN.out.2.2.2]; omega)]
   ·exact Only.below HC.out.below (by omega) HC.out.below.size ho
theorem copy_is (L : Lay) (w : World) (hL : LayAt w L) (h1 : L.se.l.length ≤ 100000) (h2 : L.po.l.length ≤ 100000) (h3 : L.sg.l.length ≤ 100000) (h4 : L.rt.l.length ≤ 100000) (h5 : ∀ r ∈ L.rt.l, r.pa.l.length ≤ 100000 ∧ r.po.l.length ≤ 100000 ∧ r.ov.l.length ≤ 100000 ∧ r.fl.l.length ≤ 100000) :
 Calls Try.prog 9 #[.agg #[L.se.v, L.po.v, L.sg.v, L.rt.v]] w fun e w' => ∃ M, e = .returned (.agg #[M.se.v, M.po.v, M.sg.v, M.rt.v]) ∧ LayX (fun b => b < w.heap.size) w' M ∧ SameLay L M ∧ Below w.heap.size w w' :=
 copy_bytes L w hL (by omega) (by omega) (by omega) (by omega) (fun r hr => by have := h5 r hr; omega)
end Go.Proofs.Ytjienmjpfklgeaa
namespace Go.Proofs.Ytjienmjpfklgeaa
open Go.RowKit

theorem nms_iff : ∀ (l pre : List BA), nmsFrom pre l = true ↔ (∀ s ∈ l, rightS s = true ∧ s ∉ pre) ∧ l.Nodup := by
 intro l
 induction l with
 | nil => intro pre; exact ⟨fun _ => ⟨by simp, List.nodup_nil⟩, fun _ => rfl⟩
 | cons a l ih =>
   intro pre
   have e : nmsFrom pre (a :: l) = (okNm pre a && nmsFrom (pre ++ [a]) l) := rfl
   have o : okNm pre a = true ↔ rightS a = true ∧ a ∉ pre := by
    unfold okNm
    rw [Bool.and_eq_true, Bool.not_eq_true']
    constructor
    ·rintro ⟨h1, h2⟩
     exact ⟨h1, fun h => by rw [hasN_iff.2 h] at h2; cases h2⟩
    ·rintro ⟨h1, h2⟩
     refine ⟨h1, ?_⟩
     cases hh : hasN pre a with
     | false => rfl
     | true => exact absurd (hasN_iff.1 hh) h2
   rw [e, Bool.and_eq_true, o, ih]
   constructor
   ·rintro ⟨⟨h1, h2⟩, h3, h4⟩
    refine ⟨fun s hs => ?_, List.nodup_cons.2 ⟨fun hm => (h3 a hm).2 (by simp), h4⟩⟩
    rcases List.mem_cons.1 hs with rfl | hs
    ·exact ⟨h1, h2⟩
    ·exact ⟨(h3 s hs).1, fun h => (h3 s hs).2 (by simp [h])⟩
   ·rintro ⟨h1, h2⟩
    obtain ⟨g1, g2⟩ := List.nodup_cons.1 h2
    refine ⟨h1 a (by simp), fun s hs => ⟨(h1 s (by simp [hs])).1, fun h => ?_⟩, g2⟩
    rcases List.mem_append.1 h with h | h
    ·exact (h1 s (by simp [hs])).2 h
    ·simp at h; subst h; exact g1 hs
/-- r' is r, its path in another order -/
structure RtLike (r r' : Rt) : Prop where
 nm : r'.nm = r.nm
 sg : r'.sg = r.sg
 pa : r'.pa.l.Perm r.pa.l
 po : r'.po.l = r.po.l
 ov : r'.ov.l = r.ov.l
 fl : r'.fl.l = r.fl.l
theorem RtLike.refl (r : Rt) : RtLike r r := ⟨rfl, rfl, List.Perm.refl _, rfl, rfl, rfl⟩
theorem hasI_perm {l m : List Int} (h : l.Perm m) (s : Int) : hasI l s = hasI m s := by
 unfold hasI
 rw [Bool.eq_iff_iff, List.any_eq_true, List.any_eq_true]
 constructor
 ·rintro ⟨x, hx, hs⟩; exact ⟨x, h.mem_iff.1 hx, hs⟩
 ·rintro ⟨x, hx, hs⟩; exact ⟨x, h.mem_iff.2 hx, hs⟩
theorem dupI_perm {l m : List Int} (h : l.Perm m) : dupI [] l = dupI [] m := by
 have e : ∀ {a b : List Int}, a.Perm b → dupI [] a = false → dupI [] b = false := by
  intro a b hp ha
  rw [dup_count] at ha ⊢
  intro y hy
  have := ha y (hp.mem_iff.2 hy)
  rw [cntI_count] at this ⊢
  rwa [← hp.count_eq]
 cases h1 : dupI [] l with
 | false => exact (e h h1).symm
 | true =>
   cases h2 : dupI [] m with
   | true => rfl
   | false => rw [e h.symm h2] at h1; cases h1
theorem okPts_congr {t t' : List Int} {po fl : List (Int × Bool)} (h : ∀ s, hasI t s = hasI t' s) : ∀ (l : List (BA × Int)) (k : Nat), okPts t po fl k l = okPts t' po fl k l := by
 intro l
 induction l with
 | nil => intro k; rfl
 | cons p l ih =>
   intro k
   show (okPt t po fl k p.2 && okPts t po fl (k + 1) l) = (okPt t' po fl k p.2 && okPts t' po fl (k + 1) l)
   rw [ih]
   unfold okPt
   rw [h]
theorem formed_like {L M : Lay} {r r' : Rt} (hp : M.po.l = L.po.l) (hg : M.sg.l = L.sg.l) (h : RtLike r r') : formedS M r' = formedS L r := by
 have hper : (r'.pa.l ++ r'.ov.l).Perm (r.pa.l ++ r.ov.l) := by rw [h.ov]; exact h.pa.append_right _
 have hs : secOf M r'.sg = secOf L r.sg := by unfold secOf; rw [hg, h.sg]
 unfold formedS
 rw [h.pa.length_eq, dupI_perm hper, hasI_perm hper, hs, h.po, h.fl, okPts_congr (hasI_perm hper), hp]
theorem belowB_perm {n : Nat} {l m : List Int} (h : l.Perm m) : belowB n l = belowB n m := by
 unfold belowB
 rw [Bool.eq_iff_iff, List.all_eq_true, List.all_eq_true]
 constructor
 ·exact fun hh x hx => hh x (h.mem_iff.2 hx)
 ·exact fun hh x hx => hh x (h.mem_iff.1 hx)
theorem rtB_like {S P : Nat} {r r' : Rt} (h : RtLike r r') : rtB S P r' = rtB S P r := by
 unfold rtB
 rw [h.pa.length_eq, belowB_perm h.pa, h.po, h.ov, h.fl]
theorem may_less {L M : Lay} (h : mayS L = true) (hs : M.se.l = L.se.l) (hp : M.po.l = L.po.l) (hg : M.sg.l = L.sg.l) (hn : (M.rt.l.map (·.nm)).Nodup) (hr : ∀ r' ∈ M.rt.l, ∃ r ∈ L.rt.l, RtLike r r') (hlen : M.rt.l.length ≤ L.rt.l.length) : mayS M = true := by
 unfold mayS rtsFrom at h ⊢
 simp only [Bool.and_eq_true] at h ⊢
 obtain ⟨h0, ⟨⟨h1, h2⟩, h3⟩, ⟨h4, h5⟩, h6⟩ := h
 have e1 : M.n1 = L.n1 := by unfold Lay.n1; exact hs
 have e2 : M.n2 = L.n2 := by unfold Lay.n2; rw [hs, hp]
 have e3 : M.n3 = L.n3 := by unfold Lay.n3; rw [e2, hg]
 refine ⟨?_, ⟨⟨by rw [hs]; exact h1, by rw [e1, hs, hp]; exact h2⟩, by rw [e2, hs, hg]; exact h3⟩, ⟨?_, ?_⟩, ?_⟩
 ·unfold Lay.small at h0 ⊢
  rw [hs, hp, hg]
  have := of_decide_eq_true h0
  exact decide_eq_true (by omega)
 ·rw [e3, nms_iff]
  rw [nms_iff] at h4
  refine ⟨fun s hx => ?_, hn⟩
  obtain ⟨r', hr', rfl⟩ := List.mem_map.1 hx
  obtain ⟨r, hr0, hl⟩ := hr r' hr'
  rw [hl.nm]
  exact h4.1 _ (List.mem_map.2 ⟨r, hr0, rfl⟩)
 ·rw [hg]
  unfold belowB
  rw [List.all_eq_true]
  intro x hx
  obtain ⟨r', hr', rfl⟩ := List.mem_map.1 hx
  obtain ⟨r, hr0, hl⟩ := hr r' hr'
  rw [hl.sg]
  exact decide_eq_true (belowB_mem h5 r.sg (List.mem_map.2 ⟨r, hr0, rfl⟩))
 ·rw [List.all_eq_true] at h6 ⊢
  intro r' hr'
  obtain ⟨r, hr0, hl⟩ := hr r' hr'
  rw [hs, hp, rtB_like hl]
  exact h6 r hr0
theorem bad_none {L : Lay} : badS L < 0 ↔ ∀ r ∈ L.rt.l, formedS L r = true := by
 have h := ixF_iff (fun r => !formedS L r) L.rt.l 0
 constructor
 ·intro hb r hr
  rcases h with ⟨h1, _⟩ | ⟨_, h2⟩
  ·unfold badS at hb; omega
  ·rw [List.any_eq_false] at h2
   have := h2 r hr
   simpa using this
 ·intro hf
  rcases h with ⟨_, h2⟩ | ⟨h1, _⟩
  ·rw [List.any_eq_true] at h2
   obtain ⟨r, hr, h3⟩ := h2
   rw [hf r hr] at h3
   cases h3
  ·exact h1
/-- a layout is well-formed just if it may be and its routes are well-formed -/
theorem check_ok {L : Lay} : checkS L = (0, 0) ↔ mayS L = true ∧ ∀ r ∈ L.rt.l, formedS L r = true := by
 rw [← bad_none]
 unfold checkS
 constructor
 ·intro h
  cases hm : mayS L with
  | false => rw [hm] at h; cases h
  | true =>
    rw [hm, if_pos rfl] at h
    refine ⟨rfl, ?_⟩
    by_cases hb : 0 ≤ badS L
    ·rw [if_pos hb] at h; cases h
    ·omega
 ·rintro ⟨hm, hb⟩
  rw [hm, if_pos rfl, if_neg (by omega)]
theorem check_less {L M : Lay} (h : checkS L = (0, 0)) (hs : M.se.l = L.se.l) (hp : M.po.l = L.po.l) (hg : M.sg.l = L.sg.l) (hn : (M.rt.l.map (·.nm)).Nodup) (hr : ∀ r' ∈ M.rt.l, ∃ r ∈ L.rt.l, RtLike r r') (hlen : M.rt.l.length ≤ L.rt.l.length) : checkS M = (0, 0) := by
 rw [check_ok] at h ⊢
 refine ⟨may_less h.1 hs hp hg hn hr hlen, fun r' hr' => ?_⟩
 obtain ⟨r, hr0, hl⟩ := hr r' hr'
 rw [formed_like hp hg hl]
 exact h.2 r hr0
theorem names_dup {L : Lay} (h : mayS L = true) : (L.rt.l.map (·.nm)).Nodup := by
 unfold mayS rtsFrom at h
 simp only [Bool.and_eq_true] at h
 obtain ⟨_, _, ⟨h4, _⟩, _⟩ := h
 exact ((nms_iff _ _).1 h4).2
/-- what Check answers, in its three cases -/
theorem check_cases (L : Lay) : (mayS L = false ∧ checkS L = (2, 0)) ∨ (mayS L = true ∧ (∀ r ∈ L.rt.l, formedS L r = true) ∧ checkS L = (0, 0)) ∨ (mayS L = true ∧ (¬ ∀ r ∈ L.rt.l, formedS L r = true) ∧ ∃ z, checkS L = (50, z)) := by
 cases hm : mayS L with
 | false => exact .inl ⟨rfl, cs_no hm⟩
 | true =>
   by_cases hf : ∀ r ∈ L.rt.l, formedS L r = true
   ·exact .inr (.inl ⟨rfl, hf, check_ok.2 ⟨hm, hf⟩⟩)
   ·refine .inr (.inr ⟨rfl, hf, badS L, cs_bad hm rfl ?_⟩)
    rw [← bad_none] at hf
    omega
theorem may_sizes {L : Lay} (h : mayS L = true) : L.se.l.length ≤ 64 ∧ L.po.l.length ≤ 32 ∧ L.sg.l.length ≤ 32 ∧ L.rt.l.length ≤ 64 := by
 unfold mayS at h
 simp only [Bool.and_eq_true] at h
 exact of_decide_eq_true h.1
end Go.Proofs.Ytjienmjpfklgeaa
