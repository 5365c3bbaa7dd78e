/-
 Merged: TpF, TpH.
-/
import Derived.Test.YtpohoannggdbjaaMC
namespace Go.Proofs.Ytpohoannggdbjaa
open Go.RowKit

/-- w' is w with new blocks, and blocks of X written -/
structure WX (X : Nat → Prop) (w w' : World) : Prop where
 os : w'.os = w.os
 tape : w'.tape = w.tape
 output : w'.output = w.output
 size : w.heap.size ≤ w'.heap.size
 block : ∀ k, k < w.heap.size → ¬ X k → w'.heap[k]? = w.heap[k]?
theorem WX.refl (X : Nat → Prop) (w : World) : WX X w w := ⟨rfl, rfl, rfl, Nat.le_refl _, fun _ _ _ => rfl⟩
theorem WX.of_below {X : Nat → Prop} {w w' : World} (h : Below w.heap.size w w') : WX X w w' := ⟨h.os, h.tape, h.output, h.size, fun k hk _ => h.block k hk⟩
theorem WX.of_only {X : Nat → Prop} {g : Nat} {w w' : World} (h : Only g w w') (hg : X g) : WX X w w' := ⟨h.os, h.tape, h.output, h.size, fun k hk hx => h.block k hk (fun e => hx (e ▸ hg))⟩
theorem WX.set {X : Nat → Prop} {w : World} {g : Nat} (hg : X g) (i : Nat) (v : Value) : WX X w (w.setCell ⟨g, i, none⟩ v) := WX.of_only ((Only.refl g w).setCell rfl v) hg
theorem WX.of_grown {X : Nat → Prop} {w w' : World} {row : Option Nat} (h : w.grownBy w' row) (hr : ∀ k, row = some k → X k) : WX X w w' := ⟨h.os, h.tape, h.output, h.size, fun k hk hx => h.block k hk (fun e => hx (hr k e.symm))⟩
theorem WX.trans {X : Nat → Prop} {a b c : World} (h : WX X a b) (k : WX X b c) : WX X a c :=
 ⟨k.os.trans h.os, k.tape.trans h.tape, k.output.trans h.output, Nat.le_trans h.size k.size, fun i hi hx => (k.block i (Nat.lt_of_lt_of_le hi h.size) hx).trans (h.block i hi hx)⟩
theorem WX.mono {X Y : Nat → Prop} {w w' : World} (h : WX X w w') (hxy : ∀ b, X b → Y b) : WX Y w w' := ⟨h.os, h.tape, h.output, h.size, fun k hk hy => h.block k hk (fun e => hy (hxy k e))⟩
theorem WX.keep {X : Nat → Prop} {w w' : World} {k : Nat} {o : Obj} (h : WX X w w') (hk : ¬ X k) (hb : w.heap[k]? = some o) : w'.heap[k]? = some o := by rw [h.block k (blk_lt hb) hk, hb]
theorem WX.below {X : Nat → Prop} {w0 w w' : World} (h : Below w0.heap.size w0 w) (k : WX X w w') (hx : ∀ b, X b → w0.heap.size ≤ b) : Below w0.heap.size w0 w' :=
 ⟨k.os.trans h.os, k.tape.trans h.tape, k.output.trans h.output, Nat.le_trans h.size k.size, fun i hi => (k.block i (Nat.lt_of_lt_of_le hi h.size) (fun e => by have := hx i e; omega)).trans (h.block i hi)⟩
theorem WX.own {X : Nat → Prop} {w w' : World} {base : Nat} {e : TypeId} {sz : Nat} {v : Value} {n : Nat} {xs : List Value} (h : WX X w w') (ho : w.ownsRow base e sz v n xs) (hx : ∀ k, v.ownBlock = some k → ¬ X k) : w'.ownsRow base e sz v n xs := by
 refine ⟨ho.1, ho.2.imp id ?_⟩
 rintro ⟨g, cap, cur, h1, h2, h3, h4⟩
 exact ⟨g, cap, cur, h1, h2, h.keep (hx g (by rw [h1]; rfl)) h3, h4⟩

/-- a row that lies in no block of X -/
structure SlX {α : Type} (sz : Nat) (f : α → List Value) (X : Nat → Prop) (w : World) (s : Sl α) : Prop where
 at_ : SlAt sz f w s
 off : s.l = [] ∨ ∃ b off, s.a = some ⟨b, off, none⟩ ∧ b < w.heap.size ∧ ¬ X b
 fr : s.l = [] ∨ ∃ b off, s.a = some ⟨b, off, none⟩ ∧ ∀ i, w.frozen? ⟨b, i, none⟩ = false
theorem SlX.step {α : Type} {sz : Nat} {f : α → List Value} {X : Nat → Prop} {w w' : World} {s : Sl α} (h : SlX sz f X w s) (k : WX X w w') : SlX sz f X w' s := by
 refine ⟨⟨?_, h.at_.len, h.at_.cap, h.at_.capNil⟩, h.off.imp id ?_, ?_⟩
 ·rcases h.off with h0 | ⟨b, off, h1, h2, h3⟩
  ·exact .inl h0
  ·rcases h.at_.row with hl | ⟨b', off', hb, hc⟩
   ·exact .inl hl
   ·rw [h1] at hb
    injection hb with hb
    injection hb with hb hoff
    subst hb
    subst hoff
    refine .inr ⟨b, off, h1, fun i c hi j v hv => ?_⟩
    rw [World.cell?_of_block (w := w) (a := ⟨b, off + i * sz + j, none⟩) (k.block b h2 h3)]
    exact hc i c hi j v hv
 ·rintro ⟨b, off, h1, h2, h3⟩
  exact ⟨b, off, h1, Nat.lt_of_lt_of_le h2 k.size, h3⟩
 ·rcases h.off with h0 | ⟨b, off, h1, h2, h3⟩
  ·exact .inl h0
  ·refine h.fr.imp id ?_
   rintro ⟨b', off', h1', hf⟩
   rw [h1] at h1'
   cases h1'
   exact ⟨b, off, h1, fun i => by rw [World.frozen?_of_block (w := w) (a := ⟨b, i, none⟩) (k.block b h2 h3)]; exact hf i⟩
theorem SlX.weak {α : Type} {sz : Nat} {f : α → List Value} {X Y : Nat → Prop} {w : World} {s : Sl α} (h : SlX sz f X w s) (hy : ∀ b, b < w.heap.size → Y b → X b) : SlX sz f Y w s := by
 refine ⟨h.at_, h.off.imp id ?_, h.fr⟩
 rintro ⟨b, off, h1, h2, h3⟩
 exact ⟨b, off, h1, h2, fun e => h3 (hy b h2 e)⟩
theorem SlX.nil {α : Type} {sz : Nat} {f : α → List Value} {X : Nat → Prop} {w : World} : SlX sz f X w ⟨none, 0, []⟩ := ⟨sl_none, .inl rfl, .inl rfl⟩
theorem own_fr {α : Type} {f : α → List Value} {sz : Nat} {w : World} {base : Nat} {e : TypeId} {v : Value} {n : Nat} {l : List α} {a : Option Addr} {c : Nat} (hn : l.length = n) (hv : v = .slice a n c) (h : w.ownsRow base e sz v n (l.flatMap f)) : l = [] ∨ ∃ b off, a = some ⟨b, off, none⟩ ∧ ∀ i, w.frozen? ⟨b, i, none⟩ = false := by
 rcases h.2 with ⟨_, h0⟩ | ⟨g, cap, cur, h1, _, hheap, _⟩
 ·exact .inl (List.eq_nil_of_length_eq_zero (hn.trans h0))
 ·rw [hv] at h1
  cases h1
  exact .inr ⟨g, 0, rfl, fun i => blk_free hheap i⟩
/-- a row that the call owns, of base lo, is in no block of X, if all of X lie below lo -/
theorem own_slx {α : Type} {f : α → List Value} {sz : Nat} {X : Nat → Prop} {w : World} {base : Nat} {e : TypeId} {v : Value} {n : Nat} {l : List α} (hf : ∀ c, (f c).length = sz) (hn : l.length = n) (h : w.ownsRow base e sz v n (l.flatMap f)) (hx : ∀ b, X b → b < base) :
 ∃ a c, v = .slice a n c ∧ SlX sz f X w ⟨a, c, l⟩ := by
 obtain ⟨a, c, hv, hs, hm⟩ := own_sl2 hf hn h
 refine ⟨a, c, hv, hs, ?_, ?_⟩
 ·rcases hm with h0 | ⟨g, cs, t, h1, h2, h3, h4⟩
  ·exact .inl (List.eq_nil_of_length_eq_zero (hn.trans h0))
  ·exact .inr ⟨g, 0, h1, blk_lt h3, fun e => by have := hx g e; omega⟩
 ·exact own_fr hn hv h
structure RtX (X : Nat → Prop) (w : World) (r : Rt) : Prop where
 nm : r.nm.size ≤ maxLen
 pa : SlX 1 intC X w r.pa
 po : SlX 2 ndC X w r.po
 ov : SlX 1 intC X w r.ov
 fl : SlX 2 ndC X w r.fl
theorem RtX.step {X : Nat → Prop} {w w' : World} {r : Rt} (h : RtX X w r) (k : WX X w w') : RtX X w' r := ⟨h.nm, h.pa.step k, h.po.step k, h.ov.step k, h.fl.step k⟩
theorem RtX.weak {X Y : Nat → Prop} {w : World} {r : Rt} (h : RtX X w r) (hy : ∀ b, b < w.heap.size → Y b → X b) : RtX Y w r := ⟨h.nm, h.pa.weak hy, h.po.weak hy, h.ov.weak hy, h.fl.weak hy⟩
theorem RtX.at_ {X : Nat → Prop} {w : World} {r : Rt} (h : RtX X w r) : RtAt w r := ⟨h.nm, h.pa.at_, h.po.at_, h.ov.at_, h.fl.at_⟩
/-- a layout of which no row lies in a block of X -/
structure LayX (X : Nat → Prop) (w : World) (L : Lay) : Prop where
 se : SlX 1 strC X w L.se
 po : SlX 2 ptC X w L.po
 sg : SlX 2 ptC X w L.sg
 rt : SlX 6 rtC X w L.rt
 sn : ∀ s ∈ L.se.l, s.size ≤ maxLen
 pn : ∀ p ∈ L.po.l, p.1.size ≤ maxLen
 gn : ∀ p ∈ L.sg.l, p.1.size ≤ maxLen
 rn : ∀ r ∈ L.rt.l, RtX X w r
theorem LayX.at_ {X : Nat → Prop} {w : World} {L : Lay} (h : LayX X w L) : LayAt w L := ⟨h.se.at_, h.po.at_, h.sg.at_, h.rt.at_, h.sn, h.pn, h.gn, fun r hr => (h.rn r hr).at_⟩
theorem LayX.step {X : Nat → Prop} {w w' : World} {L : Lay} (h : LayX X w L) (k : WX X w w') : LayX X w' L := ⟨h.se.step k, h.po.step k, h.sg.step k, h.rt.step k, h.sn, h.pn, h.gn, fun r hr => (h.rn r hr).step k⟩
theorem LayX.weak {X Y : Nat → Prop} {w : World} {L : Lay} (h : LayX X w L) (hy : ∀ b, b < w.heap.size → Y b → X b) : LayX Y w L := ⟨h.se.weak hy, h.po.weak hy, h.sg.weak hy, h.rt.weak hy, h.sn, h.pn, h.gn, fun r hr => (h.rn r hr).weak hy⟩
/-- what a route holds, wherever its rows lie -/
def rc (r : Rt) : BA × Int × List Int × List (Int × Bool) × List Int × List (Int × Bool) := (r.nm, r.sg, r.pa.l, r.po.l, r.ov.l, r.fl.l)
/-- two layouts hold the same -/
structure SameLay (L M : Lay) : Prop where
 se : M.se.l = L.se.l
 po : M.po.l = L.po.l
 sg : M.sg.l = L.sg.l
 rt : M.rt.l.map rc = L.rt.l.map rc
theorem rt_one (c : Rt) : ∀ u ∈ rtC c, u.oneCell' = true := by
 intro u h; simp [rtC, Sl.v] at h
 rcases h with rfl | rfl | rfl | rfl | rfl | rfl <;> rfl
theorem pt_one (c : BA × Int) : ∀ u ∈ ptC c, u.oneCell' = true := by
 intro u h; simp [ptC] at h
 rcases h with rfl | rfl <;> rfl
/-- a source that is one block: the row of one element that a call hands over -/
theorem src_blk {w : World} {g : Nat} {cs : Array Value} {t : TypeId} {fr : Nat × Nat} {l : List Value} {c : Nat} (h : w.heap[g]? = some (.cells cs t fr)) (hl : cs.toList = l) (h1 : ∀ u ∈ l, u.oneCell' = true) : SrcAt w (some ⟨g, 0, none⟩) c l := by
 refine ⟨fun e => (by cases e), h1, fun ad had j u hu => ?_⟩
 injection had with had
 subst had
 rw [Addr.add_lit, Nat.zero_add]
 exact blk_cell h j u (by rw [← Array.getElem?_toList, hl]; exact hu)
end Go.Proofs.Ytpohoannggdbjaa
namespace Go.Proofs.Ytpohoannggdbjaa
open Go.RowKit

theorem nms_iff : ∀ (l pre : List BA), nmsFrom pre l = true ↔ (∀ s ∈ l, rightS s = true ∧ s ∉ pre) ∧ l.Nodup := by
 intro l
 induction l with
 | nil => intro pre; exact ⟨fun _ => ⟨by simp, List.nodup_nil⟩, fun _ => rfl⟩
 | cons a l ih =>
   intro pre
   have e : nmsFrom pre (a :: l) = (okNm pre a && nmsFrom (pre ++ [a]) l) := rfl
   have o : okNm pre a = true ↔ rightS a = true ∧ a ∉ pre := by
    unfold okNm
    rw [Bool.and_eq_true, Bool.not_eq_true']
    constructor
    ·rintro ⟨h1, h2⟩
     exact ⟨h1, fun h => by rw [hasN_iff.2 h] at h2; cases h2⟩
    ·rintro ⟨h1, h2⟩
     refine ⟨h1, ?_⟩
     cases hh : hasN pre a with
     | false => rfl
     | true => exact absurd (hasN_iff.1 hh) h2
   rw [e, Bool.and_eq_true, o, ih]
   constructor
   ·rintro ⟨⟨h1, h2⟩, h3, h4⟩
    refine ⟨fun s hs => ?_, List.nodup_cons.2 ⟨fun hm => (h3 a hm).2 (by simp), h4⟩⟩
    rcases List.mem_cons.1 hs with rfl | hs
    ·exact ⟨h1, h2⟩
    ·exact ⟨(h3 s hs).1, fun h => (h3 s hs).2 (by simp [h])⟩
   ·rintro ⟨h1, h2⟩
    obtain ⟨g1, g2⟩ := List.nodup_cons.1 h2
    refine ⟨h1 a (by simp), fun s hs => ⟨(h1 s (by simp [hs])).1, fun h => ?_⟩, g2⟩
    rcases List.mem_append.1 h with h | h
    ·exact (h1 s (by simp [hs])).2 h
    ·simp at h; subst h; exact g1 hs
/-- r' is r, its path in another order -/
structure RtLike (r r' : Rt) : Prop where
 nm : r'.nm = r.nm
 sg : r'.sg = r.sg
 pa : r'.pa.l.Perm r.pa.l
 po : r'.po.l = r.po.l
 ov : r'.ov.l = r.ov.l
 fl : r'.fl.l = r.fl.l
theorem RtLike.refl (r : Rt) : RtLike r r := ⟨rfl, rfl, List.Perm.refl _, rfl, rfl, rfl⟩
theorem hasI_perm {l m : List Int} (h : l.Perm m) (s : Int) : hasI l s = hasI m s := by
 unfold hasI
 rw [Bool.eq_iff_iff, List.any_eq_true, List.any_eq_true]
 constructor
 ·rintro ⟨x, hx, hs⟩; exact ⟨x, h.mem_iff.1 hx, hs⟩
 ·rintro ⟨x, hx, hs⟩; exact ⟨x, h.mem_iff.2 hx, hs⟩
theorem dupI_perm {l m : List Int} (h : l.Perm m) : dupI [] l = dupI [] m := by
 have e : ∀ {a b : List Int}, a.Perm b → dupI [] a = false → dupI [] b = false := by
  intro a b hp ha
  rw [dup_count] at ha ⊢
  intro y hy
  have := ha y (hp.mem_iff.2 hy)
  rw [cntI_count] at this ⊢
  rwa [← hp.count_eq]
 cases h1 : dupI [] l with
 | false => exact (e h h1).symm
 | true =>
   cases h2 : dupI [] m with
   | true => rfl
   | false => rw [e h.symm h2] at h1; cases h1
theorem okPts_congr {t t' : List Int} {po fl : List (Int × Bool)} (h : ∀ s, hasI t s = hasI t' s) : ∀ (l : List (BA × Int)) (k : Nat), okPts t po fl k l = okPts t' po fl k l := by
 intro l
 induction l with
 | nil => intro k; rfl
 | cons p l ih =>
   intro k
   show (okPt t po fl k p.2 && okPts t po fl (k + 1) l) = (okPt t' po fl k p.2 && okPts t' po fl (k + 1) l)
   rw [ih]
   unfold okPt
   rw [h]
theorem formed_like {L M : Lay} {r r' : Rt} (hp : M.po.l = L.po.l) (hg : M.sg.l = L.sg.l) (h : RtLike r r') : formedS M r' = formedS L r := by
 have hper : (r'.pa.l ++ r'.ov.l).Perm (r.pa.l ++ r.ov.l) := by rw [h.ov]; exact h.pa.append_right _
 have hs : secOf M r'.sg = secOf L r.sg := by unfold secOf; rw [hg, h.sg]
 unfold formedS
 rw [h.pa.length_eq, dupI_perm hper, hasI_perm hper, hs, h.po, h.fl, okPts_congr (hasI_perm hper), hp]
theorem belowB_perm {n : Nat} {l m : List Int} (h : l.Perm m) : belowB n l = belowB n m := by
 unfold belowB
 rw [Bool.eq_iff_iff, List.all_eq_true, List.all_eq_true]
 constructor
 ·exact fun hh x hx => hh x (h.mem_iff.2 hx)
 ·exact fun hh x hx => hh x (h.mem_iff.1 hx)
theorem rtB_like {S P : Nat} {r r' : Rt} (h : RtLike r r') : rtB S P r' = rtB S P r := by
 unfold rtB
 rw [h.pa.length_eq, belowB_perm h.pa, h.po, h.ov, h.fl]
theorem may_less {L M : Lay} (h : mayS L = true) (hs : M.se.l = L.se.l) (hp : M.po.l = L.po.l) (hg : M.sg.l = L.sg.l) (hn : (M.rt.l.map (·.nm)).Nodup) (hr : ∀ r' ∈ M.rt.l, ∃ r ∈ L.rt.l, RtLike r r') (hlen : M.rt.l.length ≤ L.rt.l.length) : mayS M = true := by
 unfold mayS rtsFrom at h ⊢
 simp only [Bool.and_eq_true] at h ⊢
 obtain ⟨h0, ⟨⟨h1, h2⟩, h3⟩, ⟨h4, h5⟩, h6⟩ := h
 have e1 : M.n1 = L.n1 := by unfold Lay.n1; exact hs
 have e2 : M.n2 = L.n2 := by unfold Lay.n2; rw [hs, hp]
 have e3 : M.n3 = L.n3 := by unfold Lay.n3; rw [e2, hg]
 refine ⟨?_, ⟨⟨by rw [hs]; exact h1, by rw [e1, hs, hp]; exact h2⟩, by rw [e2, hs, hg]; exact h3⟩, ⟨?_, ?_⟩, ?_⟩
 ·unfold Lay.small at h0 ⊢
  rw [hs, hp, hg]
  have := of_decide_eq_true h0
  exact decide_eq_true (by omega)
 ·rw [e3, nms_iff]
  rw [nms_iff] at h4
  refine ⟨fun s hx => ?_, hn⟩
  obtain ⟨r', hr', rfl⟩ := List.mem_map.1 hx
  obtain ⟨r, hr0, hl⟩ := hr r' hr'
  rw [hl.nm]
  exact h4.1 _ (List.mem_map.2 ⟨r, hr0, rfl⟩)
 ·rw [hg]
  unfold belowB
  rw [List.all_eq_true]
  intro x hx
  obtain ⟨r', hr', rfl⟩ := List.mem_map.1 hx
  obtain ⟨r, hr0, hl⟩ := hr r' hr'
  rw [hl.sg]
  exact decide_eq_true (belowB_mem h5 r.sg (List.mem_map.2 ⟨r, hr0, rfl⟩))
 ·rw [List.all_eq_true] at h6 ⊢
  intro r' hr'
  obtain ⟨r, hr0, hl⟩ := hr r' hr'
  rw [hs, hp, rtB_like hl]
  exact h6 r hr0
theorem bad_none {L : Lay} : badS L < 0 ↔ ∀ r ∈ L.rt.l, formedS L r = true := by
 have h := ixF_iff (fun r => !formedS L r) L.rt.l 0
 constructor
 ·intro hb r hr
  rcases h with ⟨h1, _⟩ | ⟨_, h2⟩
  ·unfold badS at hb; omega
  ·rw [List.any_eq_false] at h2
   have := h2 r hr
   simpa using this
 ·intro hf
  rcases h with ⟨_, h2⟩ | ⟨h1, _⟩
  ·rw [List.any_eq_true] at h2
   obtain ⟨r, hr, h3⟩ := h2
   rw [hf r hr] at h3
   cases h3
  ·exact h1
/-- a layout is well-formed just if it may be and its routes are well-formed -/
theorem check_ok {L : Lay} : checkS L = (0, 0) ↔ mayS L = true ∧ ∀ r ∈ L.rt.l, formedS L r = true := by
 rw [← bad_none]
 unfold checkS
 constructor
 ·intro h
  cases hm : mayS L with
  | false => rw [hm] at h; cases h
  | true =>
    rw [hm, if_pos rfl] at h
    refine ⟨rfl, ?_⟩
    by_cases hb : 0 ≤ badS L
    ·rw [if_pos hb] at h; cases h
    ·omega
 ·rintro ⟨hm, hb⟩
  rw [hm, if_pos rfl, if_neg (by omega)]
theorem check_less {L M : Lay} (h : checkS L = (0, 0)) (hs : M.se.l = L.se.l) (hp : M.po.l = L.po.l) (hg : M.sg.l = L.sg.l) (hn : (M.rt.l.map (·.nm)).Nodup) (hr : ∀ r' ∈ M.rt.l, ∃ r ∈ L.rt.l, RtLike r r') (hlen : M.rt.l.length ≤ L.rt.l.length) : checkS M = (0, 0) := by
 rw [check_ok] at h ⊢
 refine ⟨may_less h.1 hs hp hg hn hr hlen, fun r' hr' => ?_⟩
 obtain ⟨r, hr0, hl⟩ := hr r' hr'
 rw [formed_like hp hg hl]
 exact h.2 r hr0
theorem names_dup {L : Lay} (h : mayS L = true) : (L.rt.l.map (·.nm)).Nodup := by
 unfold mayS rtsFrom at h
 simp only [Bool.and_eq_true] at h
 obtain ⟨_, _, ⟨h4, _⟩, _⟩ := h
 exact ((nms_iff _ _).1 h4).2
/-- what Check answers, in its three cases -/
theorem check_cases (L : Lay) : (mayS L = false ∧ checkS L = (2, 0)) ∨ (mayS L = true ∧ (∀ r ∈ L.rt.l, formedS L r = true) ∧ checkS L = (0, 0)) ∨ (mayS L = true ∧ (¬ ∀ r ∈ L.rt.l, formedS L r = true) ∧ ∃ z, checkS L = (50, z)) := by
 cases hm : mayS L with
 | false => exact .inl ⟨rfl, cs_no hm⟩
 | true =>
   by_cases hf : ∀ r ∈ L.rt.l, formedS L r = true
   ·exact .inr (.inl ⟨rfl, hf, check_ok.2 ⟨hm, hf⟩⟩)
   ·refine .inr (.inr ⟨rfl, hf, badS L, cs_bad hm rfl ?_⟩)
    rw [← bad_none] at hf
    omega
theorem may_sizes {L : Lay} (h : mayS L = true) : L.se.l.length ≤ 64 ∧ L.po.l.length ≤ 32 ∧ L.sg.l.length ≤ 32 ∧ L.rt.l.length ≤ 64 := by
 unfold mayS at h
 simp only [Bool.and_eq_true] at h
 exact of_decide_eq_true h.1
end Go.Proofs.Ytpohoannggdbjaa
