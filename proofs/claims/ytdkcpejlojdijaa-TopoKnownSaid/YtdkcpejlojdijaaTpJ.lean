/-
  TopoLess: what lies in memory while the two copies are made, and while the two layouts are built; no walk.
-/
import Derived.Test.YtdkcpejlojdijaaTpH
namespace Go.Proofs.Ytdkcpejlojdijaa
open Go.RowKit

/-- a layout's box, as it is made -/
def ZO : Obj := .cells #[.slice none 0 0, .slice none 0 0, .slice none 0 0, .slice none 0 0] 39
/-- what lies in memory when some of two boxes are made, and some of two copies -/
structure St (w wc : World) (gl : Nat) (C : Array Value) (L : Lay) (g9 g10 : Option Nat) (M1 M2 : Option Lay) : Prop where
  lay : wc.heap[gl]? = some (.cells C 39)
  below : Below w.heap.size w wc
  b9 : ∀ g, g9 = some g → wc.heap[g]? = some ZO ∧ gl < g
  b10 : ∀ g, g10 = some g → wc.heap[g]? = some ZO ∧ gl < g
  ne : ∀ g, g9 = some g → g10 ≠ some g
  m1 : ∀ M, M1 = some M → LayX (fun b => g9 = some b ∨ g10 = some b) wc M ∧ SameLay L M
  m2 : ∀ M, M2 = some M → LayX (fun b => g9 = some b ∨ g10 = some b) wc M ∧ SameLay L M
theorem below_drewr {w W : World} (h : Below w.heap.size w W) : Below w.heap.size w W.drew := h.drew
theorem St.drew {w wc : World} {gl : Nat} {C : Array Value} {L : Lay} {g9 g10 : Option Nat} {M1 M2 : Option Lay} (h : St w wc gl C L g9 g10 M1 M2) : St w wc.drew gl C L g9 g10 M1 M2 :=
  have hb : Below wc.heap.size wc wc.drew := (Below.refl _ wc).drew
  ⟨blk_keep hb h.lay, h.below.drew, fun g hg => ⟨blk_keep hb (h.b9 g hg).1, (h.b9 g hg).2⟩, fun g hg => ⟨blk_keep hb (h.b10 g hg).1, (h.b10 g hg).2⟩, h.ne, fun M hM => ⟨(h.m1 M hM).1.step (WX.of_below hb), (h.m1 M hM).2⟩, fun M hM => ⟨(h.m2 M hM).1.step (WX.of_below hb), (h.m2 M hM).2⟩⟩
theorem St.alloc9 {w wc : World} {gl : Nat} {C : Array Value} {L : Lay} {g10 : Option Nat} {M1 M2 : Option Lay} (h : St w wc gl C L none g10 M1 M2) : St w (wc.alloc ZO) gl C L (some wc.heap.size) g10 M1 M2 := by
  have hb := below1 wc ZO
  have hw : ∀ {M : Lay}, LayX (fun b => none = some b ∨ g10 = some b) wc M → LayX (fun b => some wc.heap.size = some b ∨ g10 = some b) (wc.alloc ZO) M := fun hm =>
    (hm.weak (fun b hlt hx => hx.elim (fun e => by injection e with e; omega) .inr)).step (WX.of_below hb)
  refine ⟨blk_keep hb h.lay, below_on h.below hb, fun g hg => ?_, fun g hg => ⟨blk_keep hb (h.b10 g hg).1, (h.b10 g hg).2⟩, fun g hg e => ?_, fun M hM => ⟨hw (h.m1 M hM).1, (h.m1 M hM).2⟩, fun M hM => ⟨hw (h.m2 M hM).1, (h.m2 M hM).2⟩⟩
  · injection hg with hg
    subst hg
    exact ⟨alloc1 wc ZO (Below.refl _ _), blk_lt h.lay⟩
  · injection hg with hg
    have := blk_lt (h.b10 g e).1
    omega
theorem St.alloc10 {w wc : World} {gl : Nat} {C : Array Value} {L : Lay} {g9 : Option Nat} {M1 M2 : Option Lay} (h : St w wc gl C L g9 none M1 M2) : St w (wc.alloc ZO) gl C L g9 (some wc.heap.size) M1 M2 := by
  have hb := below1 wc ZO
  have hw : ∀ {M : Lay}, LayX (fun b => g9 = some b ∨ none = some b) wc M → LayX (fun b => g9 = some b ∨ some wc.heap.size = some b) (wc.alloc ZO) M := fun hm =>
    (hm.weak (fun b hlt hx => hx.elim .inl (fun e => by injection e with e; omega))).step (WX.of_below hb)
  refine ⟨blk_keep hb h.lay, below_on h.below hb, fun g hg => ⟨blk_keep hb (h.b9 g hg).1, (h.b9 g hg).2⟩, fun g hg => ?_, fun g hg e => ?_, fun M hM => ⟨hw (h.m1 M hM).1, (h.m1 M hM).2⟩, fun M hM => ⟨hw (h.m2 M hM).1, (h.m2 M hM).2⟩⟩
  · injection hg with hg
    subst hg
    exact ⟨alloc1 wc ZO (Below.refl _ _), blk_lt h.lay⟩
  · injection e with e
    have := blk_lt (h.b9 g hg).1
    omega
theorem St.call1 {w wc w' : World} {gl : Nat} {C : Array Value} {L M : Lay} {g9 g10 : Option Nat} {M2 : Option Lay} (h : St w wc gl C L g9 g10 none M2) (hx : LayX (fun b => b < wc.heap.size) w' M) (hs : SameLay L M) (hb : Below wc.heap.size wc w') : St w w' gl C L g9 g10 (some M) M2 := by
  refine ⟨blk_keep hb h.lay, below_on h.below hb, fun g hg => ⟨blk_keep hb (h.b9 g hg).1, (h.b9 g hg).2⟩, fun g hg => ⟨blk_keep hb (h.b10 g hg).1, (h.b10 g hg).2⟩, h.ne, fun N hN => ?_, fun N hN => ⟨(h.m2 N hN).1.step (WX.of_below hb), (h.m2 N hN).2⟩⟩
  injection hN with hN
  subst hN
  refine ⟨hx.weak (fun b _ e => ?_), hs⟩
  rcases e with e | e
  · exact blk_lt (h.b9 b e).1
  · exact blk_lt (h.b10 b e).1
theorem St.call2 {w wc w' : World} {gl : Nat} {C : Array Value} {L M : Lay} {g9 g10 : Option Nat} {M1 : Option Lay} (h : St w wc gl C L g9 g10 M1 none) (hx : LayX (fun b => b < wc.heap.size) w' M) (hs : SameLay L M) (hb : Below wc.heap.size wc w') : St w w' gl C L g9 g10 M1 (some M) := by
  refine ⟨blk_keep hb h.lay, below_on h.below hb, fun g hg => ⟨blk_keep hb (h.b9 g hg).1, (h.b9 g hg).2⟩, fun g hg => ⟨blk_keep hb (h.b10 g hg).1, (h.b10 g hg).2⟩, h.ne, fun N hN => ⟨(h.m1 N hN).1.step (WX.of_below hb), (h.m1 N hN).2⟩, fun N hN => ?_⟩
  injection hN with hN
  subst hN
  refine ⟨hx.weak (fun b _ e => ?_), hs⟩
  rcases e with e | e
  · exact blk_lt (h.b9 b e).1
  · exact blk_lt (h.b10 b e).1
theorem name_K {K : Act → World → Prop} {a : Act} {w : World} (h : ∀ W, W = w → K a W) : K a w := h w rfl

/-- what lies in memory when both copies are made and stored -/
structure TlB (w wx : World) (gl g9 g10 : Nat) (C E1 E2 : Array Value) (L M1 M2 : Lay) : Prop where
  lay : wx.heap[gl]? = some (.cells C 39)
  below : Below w.heap.size w wx
  b9 : wx.heap[g9]? = some (.cells E1 39)
  b10 : wx.heap[g10]? = some (.cells E2 39)
  l9 : gl < g9
  l10 : gl < g10
  ne : g9 ≠ g10
  m1 : LayX (fun b => b = g9 ∨ b = g10) wx M1
  m2 : LayX (fun b => b = g9 ∨ b = g10) wx M2
  s1 : SameLay L M1
  s2 : SameLay L M2
theorem St.stores {w V V1 V2 : World} {gl g9 g10 : Nat} {C E1 E2 : Array Value} {L M1 M2 : Lay} (h : St w V gl C L (some g9) (some g10) (some M1) (some M2)) (hgl : w.heap.size ≤ gl) (o1 : Only g9 V V1) (o2 : Only g10 V1 V2)
    (q1 : V1.heap[g9]? = some (.cells E1 39)) (q2 : V2.heap[g10]? = some (.cells E2 39)) : TlB w V2 gl g9 g10 C E1 E2 L M1 M2 := by
  have l9 := (h.b9 g9 rfl).2
  have l10 := (h.b10 g10 rfl).2
  have ne : g9 ≠ g10 := fun e => h.ne g9 rfl (by rw [e])
  have hw : WX (fun b => b = g9 ∨ b = g10) V V2 := (WX.of_only o1 (.inl rfl)).trans (WX.of_only o2 (.inr rfl))
  have wk : ∀ b, b < V.heap.size → (b = g9 ∨ b = g10) → (some g9 = some b ∨ some g10 = some b) := fun b _ e => e.elim (fun e => .inl (by rw [e])) (fun e => .inr (by rw [e]))
  exact ⟨o2.keep (by omega) (o1.keep (by omega) h.lay), hw.below h.below (fun b e => by omega), o2.keep ne q1, q2, l9, l10, ne, ((h.m1 M1 rfl).1.weak wk).step hw, ((h.m2 M2 rfl).1.weak wk).step hw, (h.m1 M1 rfl).2, (h.m2 M2 rfl).2⟩
/-- what lies in memory when the routes are built -/
def XT (g9 g10 : Nat) (v1 v2 : Value) : Nat → Prop := fun b => b = g9 ∨ b = g10 ∨ v1.ownBlock = some b ∨ v2.ownBlock = some b
structure TlI (w wr : World) (gl g9 g10 lo : Nat) (C : Array Value) (D1 D2 : Value → Array Value) (L M1 M2 : Lay) (v1 v2 : Value) (k1 k2 : Nat) (rs1 rs2 : List Rt) : Prop where
  lay : wr.heap[gl]? = some (.cells C 39)
  below : Below w.heap.size w wr
  b9 : wr.heap[g9]? = some (.cells (D1 v1) 39)
  b10 : wr.heap[g10]? = some (.cells (D2 v2) 39)
  l9 : gl < g9
  l10 : gl < g10
  o9 : g9 < lo
  o10 : g10 < lo
  ne : g9 ≠ g10
  big : lo ≤ wr.heap.size
  own1 : wr.ownsRow lo 25 6 v1 rs1.length (rs1.flatMap rtC)
  own2 : wr.ownsRow lo 25 6 v2 rs2.length (rs2.flatMap rtC)
  dj : ∀ b, v1.ownBlock = some b → v2.ownBlock ≠ some b
  m1 : SlX 1 strC (XT g9 g10 v1 v2) wr M1.se ∧ SlX 2 ptC (XT g9 g10 v1 v2) wr M1.po ∧ SlX 2 ptC (XT g9 g10 v1 v2) wr M1.sg
  m2 : SlX 1 strC (XT g9 g10 v1 v2) wr M2.se ∧ SlX 2 ptC (XT g9 g10 v1 v2) wr M2.po ∧ SlX 2 ptC (XT g9 g10 v1 v2) wr M2.sg
  rx : ∀ r ∈ rs2, RtX (XT g9 g10 v1 v2) wr r
  sub : rs1.Sublist (L.rt.l.take k1)
  len2 : rs2.length = k2
  nm2 : rs2.map (·.nm) = (L.rt.l.reverse.take k2).map (·.nm)
  like : ∀ r' ∈ rs2, ∃ r ∈ L.rt.l, RtLike r r'
theorem sl_old {α : Type} {sz : Nat} {f : α → List Value} {X : Nat → Prop} {w : World} {s : Sl α} (hf : ∀ c, (f c).length = sz) (hsz : 0 < sz) (h : SlAt sz f w s) (hx : ∀ b, X b → w.heap.size ≤ b) : SlX sz f X w s := by
  refine ⟨h, ?_⟩
  rcases h.row with h0 | ⟨b, off, hb, hc⟩
  · exact .inl h0
  · cases hl : s.l with
    | nil => exact .inl rfl
    | cons c l =>
      refine .inr ⟨b, off, hb, ?_, fun e => ?_⟩
      · have := hc 0 c (by rw [hl]; rfl) 0 _ (List.getElem?_eq_getElem (by rw [hf]; exact hsz))
        exact World.block_lt_of_cell? w _ this
      · have h1 := hc 0 c (by rw [hl]; rfl) 0 _ (List.getElem?_eq_getElem (by rw [hf]; exact hsz))
        have h2 := World.block_lt_of_cell? w _ h1
        have h3 := hx b e
        dsimp only at h2
        omega
theorem rt_old {X : Nat → Prop} {w : World} {r : Rt} (h : RtAt w r) (hx : ∀ b, X b → w.heap.size ≤ b) : RtX X w r :=
  ⟨h.nm, sl_old int_len (by decide) h.pa hx, sl_old nd_len (by decide) h.po hx, sl_old int_len (by decide) h.ov hx, sl_old nd_len (by decide) h.fl hx⟩
section
variable {w wr : World} {gl g9 g10 lo : Nat} {C : Array Value} {D1 D2 : Value → Array Value} {L M1 M2 : Lay} {v1 v2 : Value} {k1 k2 : Nat} {rs1 rs2 : List Rt}
theorem TlI.xlt (h : TlI w wr gl g9 g10 lo C D1 D2 L M1 M2 v1 v2 k1 k2 rs1 rs2) : ∀ b, XT g9 g10 v1 v2 b → gl < b ∧ b < wr.heap.size := by
  intro b e
  have := h.l9; have := h.l10; have := h.o9; have := h.o10; have := h.big
  rcases e with e | e | e | e
  · omega
  · omega
  · have := h.own1.lt b e; omega
  · have := h.own2.lt b e; omega
theorem TlI.skip1 (h : TlI w wr gl g9 g10 lo C D1 D2 L M1 M2 v1 v2 k1 k2 rs1 rs2) : TlI w wr gl g9 g10 lo C D1 D2 L M1 M2 v1 v2 (k1 + 1) k2 rs1 rs2 :=
  { h with sub := h.sub.trans (by rw [List.take_add_one]; exact List.sublist_append_left _ _) }
theorem TlI.push1 {WB W9 WE : World} {v9 : Value} {y : Rt} (h : TlI w wr gl g9 g10 lo C D1 D2 L M1 M2 v1 v2 k1 k2 rs1 rs2) (hgl : w.heap.size ≤ gl) (hb : Below wr.heap.size wr WB) (hg : WB.grownBy W9 v1.ownBlock) (hn : Value.newOr WB v1 v9)
    (hown : W9.ownsRow lo 25 6 v9 (rs1.length + 1) ((rs1 ++ [y]).flatMap rtC)) (ho : Only g9 W9 WE) (hq : WE.heap[g9]? = some (.cells (D1 v9) 39)) (hy : L.rt.l[k1]? = some y) :
    TlI w WE gl g9 g10 lo C D1 D2 L M1 M2 v9 v2 (k1 + 1) k2 (rs1 ++ [y]) rs2 := by
  have x := h.xlt
  have l9 := h.l9; have l10 := h.l10; have o9 := h.o9; have o10 := h.o10; have hbg := h.big
  have hv1 := h.own1.lt
  have hv2 := h.own2.lt
  have hv9 := hown.lt
  have hsz := hb.size
  have hb9 := (below_on h.below hb).grown hg (Nat.le_trans h.below.size hsz) (fun b e => by have := hv1 b e; omega)
  have kp : ∀ (b : Nat) (o : Obj), b < wr.heap.size → b ≠ g9 → v1.ownBlock ≠ some b → wr.heap[b]? = some o → WE.heap[b]? = some o := fun b o _ e2 e3 e4 =>
    ho.keep e2 ((WX.of_grown (X := fun b => v1.ownBlock = some b) hg (fun _ e => e)).keep e3 (blk_keep hb e4))
  have kx : WX (fun b => XT g9 g10 v1 v2 b ∨ XT g9 g10 v9 v2 b) WB WE := (WX.of_grown hg (fun b e => .inl (.inr (.inr (.inl e))))).trans (WX.of_only ho (.inl (.inl rfl)))
  have wk : ∀ b, b < WB.heap.size → (XT g9 g10 v1 v2 b ∨ XT g9 g10 v9 v2 b) → XT g9 g10 v1 v2 b := fun b hlt e => by
    rcases e with e | e | e | e | e
    · exact e
    · exact .inl e
    · exact .inr (.inl e)
    · rcases hn with hn | ⟨k, hk, hle⟩
      · exact .inr (.inr (.inl (hn ▸ e)))
      · rw [e] at hk; injection hk with hk; omega
    · exact .inr (.inr (.inr e))
  have sx : ∀ {α : Type} {sz : Nat} {f : α → List Value} {s : Sl α}, SlX sz f (XT g9 g10 v1 v2) wr s → SlX sz f (XT g9 g10 v9 v2) WE s := fun hs =>
    (((hs.step (WX.of_below hb)).weak wk).step kx).weak (fun b _ e => .inr e)
  have no2 : ∀ b, v2.ownBlock = some b → v1.ownBlock ≠ some b := fun b e2 e1 => h.dj b e1 e2
  refine ⟨kp gl _ (blk_lt h.lay) (by omega) (fun e => by have := hv1 gl e; omega) h.lay, Only.below hb9 (by omega) hb9.size ho, hq, kp g10 _ (blk_lt h.b10) (fun e => h.ne e.symm) (fun e => by have := hv1 g10 e; omega) h.b10, l9, l10, o9, o10, h.ne, Nat.le_trans hbg (Nat.le_trans hsz (Nat.le_trans hg.size ho.size)), ?_, ?_, ?_, ⟨sx h.m1.1, sx h.m1.2.1, sx h.m1.2.2⟩, ⟨sx h.m2.1, sx h.m2.2.1, sx h.m2.2.2⟩, fun r hr => (have q := h.rx r hr; ⟨q.nm, sx q.pa, sx q.po, sx q.ov, sx q.fl⟩), ?_, h.len2, h.nm2, h.like⟩
  · rw [List.length_append]
    exact (WX.of_only (X := fun b => b = g9) ho rfl).own hown (fun b e => by have := hv9 b e; omega)
  · refine (WX.of_only (X := fun b => b = g9) ho rfl).own ?_ (fun b e => by have := hv2 b e; omega)
    exact (WX.of_grown (X := fun b => v1.ownBlock = some b) hg (fun _ e => e)).own (own_below hb h.own2) no2
  · intro b e1 e2
    rcases hn with hn | ⟨k, hk, hle⟩
    · exact h.dj b (hn ▸ e1) e2
    · rw [e1] at hk; injection hk with hk
      have := hv2 b e2
      omega
  · rw [List.take_add_one, hy]
    exact List.Sublist.append h.sub (List.Sublist.refl _)
theorem TlI.push2 {WB W9 WE : World} {v9 : Value} {r' : Rt} (h : TlI w wr gl g9 g10 lo C D1 D2 L M1 M2 v1 v2 k1 k2 rs1 rs2) (hgl : w.heap.size ≤ gl) (hb : Below wr.heap.size wr WB) (hg : WB.grownBy W9 v2.ownBlock) (hn : Value.newOr WB v2 v9)
    (hown : W9.ownsRow lo 25 6 v9 (rs2.length + 1) ((rs2 ++ [r']).flatMap rtC)) (ho : Only g10 W9 WE) (hq : WE.heap[g10]? = some (.cells (D2 v9) 39)) (hr' : RtX (XT g9 g10 v1 v2) WB r')
    {y : Rt} (hy : L.rt.l.reverse[k2]? = some y) (hl : RtLike y r') :
    TlI w WE gl g9 g10 lo C D1 D2 L M1 M2 v1 v9 k1 (k2 + 1) rs1 (rs2 ++ [r']) := by
  have x := h.xlt
  have l9 := h.l9; have l10 := h.l10; have o9 := h.o9; have o10 := h.o10; have hbg := h.big
  have hv1 := h.own1.lt
  have hv2 := h.own2.lt
  have hv9 := hown.lt
  have hsz := hb.size
  have hb9 := (below_on h.below hb).grown hg (Nat.le_trans h.below.size hsz) (fun b e => by have := hv2 b e; omega)
  have kp : ∀ (b : Nat) (o : Obj), b < wr.heap.size → b ≠ g10 → v2.ownBlock ≠ some b → wr.heap[b]? = some o → WE.heap[b]? = some o := fun b o _ e2 e3 e4 =>
    ho.keep e2 ((WX.of_grown (X := fun b => v2.ownBlock = some b) hg (fun _ e => e)).keep e3 (blk_keep hb e4))
  have kx : WX (fun b => XT g9 g10 v1 v2 b ∨ XT g9 g10 v1 v9 b) WB WE := (WX.of_grown hg (fun b e => .inl (.inr (.inr (.inr e))))).trans (WX.of_only ho (.inl (.inr (.inl rfl))))
  have wk : ∀ b, b < WB.heap.size → (XT g9 g10 v1 v2 b ∨ XT g9 g10 v1 v9 b) → XT g9 g10 v1 v2 b := fun b hlt e => by
    rcases e with e | e | e | e | e
    · exact e
    · exact .inl e
    · exact .inr (.inl e)
    · exact .inr (.inr (.inl e))
    · rcases hn with hn | ⟨k, hk, hle⟩
      · exact .inr (.inr (.inr (hn ▸ e)))
      · rw [e] at hk; injection hk with hk; omega
  have sy : ∀ {α : Type} {sz : Nat} {f : α → List Value} {s : Sl α}, SlX sz f (XT g9 g10 v1 v2) WB s → SlX sz f (XT g9 g10 v1 v9) WE s := fun hs =>
    ((hs.weak wk).step kx).weak (fun b _ e => .inr e)
  have sx : ∀ {α : Type} {sz : Nat} {f : α → List Value} {s : Sl α}, SlX sz f (XT g9 g10 v1 v2) wr s → SlX sz f (XT g9 g10 v1 v9) WE s := fun hs => sy (hs.step (WX.of_below hb))
  refine ⟨kp gl _ (blk_lt h.lay) (by omega) (fun e => by have := hv2 gl e; omega) h.lay, Only.below hb9 (by omega) hb9.size ho, kp g9 _ (blk_lt h.b9) h.ne (fun e => by have := hv2 g9 e; omega) h.b9, hq, l9, l10, o9, o10, h.ne, Nat.le_trans hbg (Nat.le_trans hsz (Nat.le_trans hg.size ho.size)), ?_, ?_, ?_, ⟨sx h.m1.1, sx h.m1.2.1, sx h.m1.2.2⟩, ⟨sx h.m2.1, sx h.m2.2.1, sx h.m2.2.2⟩, ?_, h.sub, by rw [List.length_append, h.len2]; rfl, ?_, ?_⟩
  · refine (WX.of_only (X := fun b => b = g10) ho rfl).own ?_ (fun b e => by have := hv1 b e; omega)
    exact (WX.of_grown (X := fun b => v2.ownBlock = some b) hg (fun _ e => e)).own (own_below hb h.own1) (fun b e => h.dj b e)
  · rw [List.length_append]
    exact (WX.of_only (X := fun b => b = g10) ho rfl).own hown (fun b e => by have := hv9 b e; omega)
  · intro b e1 e2
    rcases hn with hn | ⟨k, hk, hle⟩
    · exact h.dj b e1 (hn ▸ e2)
    · rw [e2] at hk; injection hk with hk
      have := hv1 b e1
      omega
  · intro r hr
    rcases List.mem_append.1 hr with hr | hr
    · have q := h.rx r hr
      exact ⟨q.nm, sx q.pa, sx q.po, sx q.ov, sx q.fl⟩
    · simp at hr
      subst hr
      exact ⟨hr'.nm, sy hr'.pa, sy hr'.po, sy hr'.ov, sy hr'.fl⟩
  · rw [List.map_append, h.nm2, List.take_add_one, hy, List.map_append]
    show _ ++ [r'.nm] = _ ++ [y.nm]
    rw [hl.nm]
  · intro r hr
    rcases List.mem_append.1 hr with hr | hr
    · exact h.like r hr
    · simp at hr
      subst hr
      exact ⟨y, List.mem_reverse.1 (List.mem_of_getElem? hy), hl⟩
/-- what the first layout is in the end -/
theorem TlI.end1 (h : TlI w wr gl g9 g10 lo C D1 D2 L M1 M2 v1 v2 k1 k2 rs1 rs2) (hL : LayAt w L) (hc : checkS L = (0, 0)) (s1 : SameLay L M1) :
    ∃ a c, v1 = .slice a rs1.length c ∧ LayAt wr ⟨M1.se, M1.po, M1.sg, ⟨a, c, rs1⟩⟩ ∧ checkS ⟨M1.se, M1.po, M1.sg, ⟨a, c, rs1⟩⟩ = (0, 0) := by
  obtain ⟨a, c, hv, hs⟩ := own_sl rt_len rfl h.own1
  have hsub : rs1.Sublist L.rt.l := h.sub.trans (List.take_sublist _ _)
  refine ⟨a, c, hv, ⟨h.m1.1.at_, h.m1.2.1.at_, h.m1.2.2.at_, hs, by rw [s1.se]; exact hL.sn, by rw [s1.po]; exact hL.pn, by rw [s1.sg]; exact hL.gn, fun r hr => (hL.rn r (hsub.subset hr)).below h.below⟩, ?_⟩
  exact check_less hc s1.se s1.po s1.sg ((hsub.map _).nodup (names_dup (check_ok.1 hc).1)) (fun r hr => ⟨r, hsub.subset hr, RtLike.refl r⟩) hsub.length_le
theorem TlI.end2 (h : TlI w wr gl g9 g10 lo C D1 D2 L M1 M2 v1 v2 k1 k2 rs1 rs2) (hL : LayAt w L) (hc : checkS L = (0, 0)) (s2 : SameLay L M2) (hk : k2 = L.rt.l.length) :
    ∃ a c, v2 = .slice a rs2.length c ∧ LayAt wr ⟨M2.se, M2.po, M2.sg, ⟨a, c, rs2⟩⟩ ∧ checkS ⟨M2.se, M2.po, M2.sg, ⟨a, c, rs2⟩⟩ = (0, 0) := by
  obtain ⟨a, c, hv, hs⟩ := own_sl rt_len rfl h.own2
  refine ⟨a, c, hv, ⟨h.m2.1.at_, h.m2.2.1.at_, h.m2.2.2.at_, hs, by rw [s2.se]; exact hL.sn, by rw [s2.po]; exact hL.pn, by rw [s2.sg]; exact hL.gn, fun r hr => (h.rx r hr).at_⟩, ?_⟩
  refine check_less hc s2.se s2.po s2.sg ?_ h.like (by have := h.len2; dsimp only; omega)
  show (rs2.map (·.nm)).Nodup
  rw [h.nm2, List.take_of_length_le (by rw [List.length_reverse]; omega), List.map_reverse]
  exact (List.reverse_perm _).nodup_iff.2 (names_dup (check_ok.1 hc).1)
end
end Go.Proofs.Ytdkcpejlojdijaa
