/-
  Worlds in which a set of blocks alone is written; rows that lie outside of the set.
-/
import Derived.Test.YtjienmjpfklgeaaMC
namespace Go.Proofs.Ytjienmjpfklgeaa
open Go.RowKit

/-- w' is w with new blocks, and blocks of X written -/
structure WX (X : Nat → Prop) (w w' : World) : Prop where
  os : w'.os = w.os
  tape : w'.tape = w.tape
  output : w'.output = w.output
  size : w.heap.size ≤ w'.heap.size
  block : ∀ k, k < w.heap.size → ¬ X k → w'.heap[k]? = w.heap[k]?
theorem WX.refl (X : Nat → Prop) (w : World) : WX X w w := ⟨rfl, rfl, rfl, Nat.le_refl _, fun _ _ _ => rfl⟩
theorem WX.of_below {X : Nat → Prop} {w w' : World} (h : Below w.heap.size w w') : WX X w w' := ⟨h.os, h.tape, h.output, h.size, fun k hk _ => h.block k hk⟩
theorem WX.of_only {X : Nat → Prop} {g : Nat} {w w' : World} (h : Only g w w') (hg : X g) : WX X w w' := ⟨h.os, h.tape, h.output, h.size, fun k hk hx => h.block k hk (fun e => hx (e ▸ hg))⟩
theorem WX.set {X : Nat → Prop} {w : World} {g : Nat} (hg : X g) (i : Nat) (v : Value) : WX X w (w.setCell ⟨g, i, none⟩ v) := WX.of_only ((Only.refl g w).setCell rfl v) hg
theorem WX.of_grown {X : Nat → Prop} {w w' : World} {row : Option Nat} (h : w.grownBy w' row) (hr : ∀ k, row = some k → X k) : WX X w w' := ⟨h.os, h.tape, h.output, h.size, fun k hk hx => h.block k hk (fun e => hx (hr k e.symm))⟩
theorem WX.trans {X : Nat → Prop} {a b c : World} (h : WX X a b) (k : WX X b c) : WX X a c :=
  ⟨k.os.trans h.os, k.tape.trans h.tape, k.output.trans h.output, Nat.le_trans h.size k.size, fun i hi hx => (k.block i (Nat.lt_of_lt_of_le hi h.size) hx).trans (h.block i hi hx)⟩
theorem WX.mono {X Y : Nat → Prop} {w w' : World} (h : WX X w w') (hxy : ∀ b, X b → Y b) : WX Y w w' := ⟨h.os, h.tape, h.output, h.size, fun k hk hy => h.block k hk (fun e => hy (hxy k e))⟩
theorem WX.keep {X : Nat → Prop} {w w' : World} {k : Nat} {o : Obj} (h : WX X w w') (hk : ¬ X k) (hb : w.heap[k]? = some o) : w'.heap[k]? = some o := by rw [h.block k (blk_lt hb) hk, hb]
theorem WX.below {X : Nat → Prop} {w0 w w' : World} (h : Below w0.heap.size w0 w) (k : WX X w w') (hx : ∀ b, X b → w0.heap.size ≤ b) : Below w0.heap.size w0 w' :=
  ⟨k.os.trans h.os, k.tape.trans h.tape, k.output.trans h.output, Nat.le_trans h.size k.size, fun i hi => (k.block i (Nat.lt_of_lt_of_le hi h.size) (fun e => by have := hx i e; omega)).trans (h.block i hi)⟩
theorem WX.own {X : Nat → Prop} {w w' : World} {base : Nat} {e : TypeId} {sz : Nat} {v : Value} {n : Nat} {xs : List Value} (h : WX X w w') (ho : w.ownsRow base e sz v n xs) (hx : ∀ k, v.ownBlock = some k → ¬ X k) : w'.ownsRow base e sz v n xs := by
  refine ⟨ho.1, ho.2.imp id ?_⟩
  rintro ⟨g, cap, cur, h1, h2, h3, h4⟩
  exact ⟨g, cap, cur, h1, h2, h.keep (hx g (by rw [h1]; rfl)) h3, h4⟩

/-- a row that lies in no block of X -/
structure SlX {α : Type} (sz : Nat) (f : α → List Value) (X : Nat → Prop) (w : World) (s : Sl α) : Prop where
  at_ : SlAt sz f w s
  off : s.l = [] ∨ ∃ b off, s.a = some ⟨b, off, none⟩ ∧ b < w.heap.size ∧ ¬ X b
theorem SlX.step {α : Type} {sz : Nat} {f : α → List Value} {X : Nat → Prop} {w w' : World} {s : Sl α} (h : SlX sz f X w s) (k : WX X w w') : SlX sz f X w' s := by
  refine ⟨⟨?_, h.at_.len, h.at_.cap, h.at_.capNil⟩, h.off.imp id ?_⟩
  · rcases h.off with h0 | ⟨b, off, h1, h2, h3⟩
    · exact .inl h0
    · rcases h.at_.row with hl | ⟨b', off', hb, hc⟩
      · exact .inl hl
      · rw [h1] at hb
        injection hb with hb
        injection hb with hb hoff
        subst hb
        subst hoff
        refine .inr ⟨b, off, h1, fun i c hi j v hv => ?_⟩
        rw [World.cell?_of_block (w := w) (a := ⟨b, off + i * sz + j, none⟩) (k.block b h2 h3)]
        exact hc i c hi j v hv
  · rintro ⟨b, off, h1, h2, h3⟩
    exact ⟨b, off, h1, Nat.lt_of_lt_of_le h2 k.size, h3⟩
theorem SlX.weak {α : Type} {sz : Nat} {f : α → List Value} {X Y : Nat → Prop} {w : World} {s : Sl α} (h : SlX sz f X w s) (hy : ∀ b, b < w.heap.size → Y b → X b) : SlX sz f Y w s := by
  refine ⟨h.at_, h.off.imp id ?_⟩
  rintro ⟨b, off, h1, h2, h3⟩
  exact ⟨b, off, h1, h2, fun e => h3 (hy b h2 e)⟩
theorem SlX.nil {α : Type} {sz : Nat} {f : α → List Value} {X : Nat → Prop} {w : World} : SlX sz f X w ⟨none, 0, []⟩ := ⟨sl_none, .inl rfl⟩
/-- a row that the call owns, of base lo, is in no block of X, if all of X lie below lo -/
theorem own_slx {α : Type} {f : α → List Value} {sz : Nat} {X : Nat → Prop} {w : World} {base : Nat} {e : TypeId} {v : Value} {n : Nat} {l : List α} (hf : ∀ c, (f c).length = sz) (hn : l.length = n) (h : w.ownsRow base e sz v n (l.flatMap f)) (hx : ∀ b, X b → b < base) :
    ∃ a c, v = .slice a n c ∧ SlX sz f X w ⟨a, c, l⟩ := by
  obtain ⟨a, c, hv, hs, hm⟩ := own_sl2 hf hn h
  refine ⟨a, c, hv, hs, ?_⟩
  rcases hm with h0 | ⟨g, cs, t, h1, h2, h3, h4⟩
  · exact .inl (List.eq_nil_of_length_eq_zero (hn.trans h0))
  · exact .inr ⟨g, 0, h1, blk_lt h3, fun e => by have := hx g e; omega⟩
structure RtX (X : Nat → Prop) (w : World) (r : Rt) : Prop where
  nm : r.nm.size ≤ maxLen
  pa : SlX 1 intC X w r.pa
  po : SlX 2 ndC X w r.po
  ov : SlX 1 intC X w r.ov
  fl : SlX 2 ndC X w r.fl
theorem RtX.step {X : Nat → Prop} {w w' : World} {r : Rt} (h : RtX X w r) (k : WX X w w') : RtX X w' r := ⟨h.nm, h.pa.step k, h.po.step k, h.ov.step k, h.fl.step k⟩
theorem RtX.weak {X Y : Nat → Prop} {w : World} {r : Rt} (h : RtX X w r) (hy : ∀ b, b < w.heap.size → Y b → X b) : RtX Y w r := ⟨h.nm, h.pa.weak hy, h.po.weak hy, h.ov.weak hy, h.fl.weak hy⟩
theorem RtX.at_ {X : Nat → Prop} {w : World} {r : Rt} (h : RtX X w r) : RtAt w r := ⟨h.nm, h.pa.at_, h.po.at_, h.ov.at_, h.fl.at_⟩
/-- a layout of which no row lies in a block of X -/
structure LayX (X : Nat → Prop) (w : World) (L : Lay) : Prop where
  se : SlX 1 strC X w L.se
  po : SlX 2 ptC X w L.po
  sg : SlX 2 ptC X w L.sg
  rt : SlX 6 rtC X w L.rt
  sn : ∀ s ∈ L.se.l, s.size ≤ maxLen
  pn : ∀ p ∈ L.po.l, p.1.size ≤ maxLen
  gn : ∀ p ∈ L.sg.l, p.1.size ≤ maxLen
  rn : ∀ r ∈ L.rt.l, RtX X w r
theorem LayX.at_ {X : Nat → Prop} {w : World} {L : Lay} (h : LayX X w L) : LayAt w L := ⟨h.se.at_, h.po.at_, h.sg.at_, h.rt.at_, h.sn, h.pn, h.gn, fun r hr => (h.rn r hr).at_⟩
theorem LayX.step {X : Nat → Prop} {w w' : World} {L : Lay} (h : LayX X w L) (k : WX X w w') : LayX X w' L := ⟨h.se.step k, h.po.step k, h.sg.step k, h.rt.step k, h.sn, h.pn, h.gn, fun r hr => (h.rn r hr).step k⟩
theorem LayX.weak {X Y : Nat → Prop} {w : World} {L : Lay} (h : LayX X w L) (hy : ∀ b, b < w.heap.size → Y b → X b) : LayX Y w L := ⟨h.se.weak hy, h.po.weak hy, h.sg.weak hy, h.rt.weak hy, h.sn, h.pn, h.gn, fun r hr => (h.rn r hr).weak hy⟩
/-- what a route holds, wherever its rows lie -/
def rc (r : Rt) : BA × Int × List Int × List (Int × Bool) × List Int × List (Int × Bool) := (r.nm, r.sg, r.pa.l, r.po.l, r.ov.l, r.fl.l)
/-- two layouts hold the same -/
structure SameLay (L M : Lay) : Prop where
  se : M.se.l = L.se.l
  po : M.po.l = L.po.l
  sg : M.sg.l = L.sg.l
  rt : M.rt.l.map rc = L.rt.l.map rc
theorem rt_one (c : Rt) : ∀ u ∈ rtC c, u.oneCell' = true := by
  intro u h; simp [rtC, Sl.v] at h
  rcases h with rfl | rfl | rfl | rfl | rfl | rfl <;> rfl
theorem pt_one (c : BA × Int) : ∀ u ∈ ptC c, u.oneCell' = true := by
  intro u h; simp [ptC] at h
  rcases h with rfl | rfl <;> rfl
/-- a source that is one block: the row of one element that a call hands over -/
theorem src_blk {w : World} {g : Nat} {cs : Array Value} {t : TypeId} {fr : Nat × Nat} {l : List Value} {c : Nat} (h : w.heap[g]? = some (.cells cs t fr)) (hl : cs.toList = l) (h1 : ∀ u ∈ l, u.oneCell' = true) : SrcAt w (some ⟨g, 0, none⟩) c l := by
  refine ⟨fun e => (by cases e), h1, fun ad had j u hu => ?_⟩
  injection had with had
  subst had
  rw [Addr.add_lit, Nat.zero_add]
  exact blk_cell h j u (by rw [← Array.getElem?_toList, hl]; exact hu)
end Go.Proofs.Ytjienmjpfklgeaa
