/-
  The two sides of chapter 20, as an abstract machine; what lies in memory for them.
-/
import Derived.Test.YtbbacmlcimgjbaaInRefMerge
import Derived.Test.YtbbacmlcimgjbaaBase2
import Derived.Test.YtbbacmlcimgjbaaObj
import Derived.Test.YtbbacmlcimgjbaaCalm
import Derived.Test.YtbbacmlcimgjbaaRead2
namespace Go.Proofs.Ytbbacmlcimgjbaa
open Go.RowKit

/-- an input: occupied, normal, reverse, the row of commands -/
structure In where
  o : Nat
  n : Nat
  r : Nat
  c : List (Nat × Int)
def In.ok (I : In) : Prop := I.o < 18446744073709551616 ∧ I.n < 4294967296 ∧ I.r < 4294967296 ∧ I.c.length ≤ 1000
def In.zero : In := ⟨0, 0, 0, []⟩
def In.same (I J : In) : Bool := decide (I.o = J.o ∧ I.n = J.n ∧ I.r = J.r ∧ I.c = J.c)
def In.merge (I J : In) : In := ⟨I.o ||| J.o, I.n &&& J.n, I.r &&& J.r, both I.c J.c⟩
theorem In.zero_ok : In.zero.ok := ⟨by decide, by decide, by decide, by decide⟩
theorem In.same_eq {I J : In} : I.same J = true ↔ I = J := by
  unfold In.same
  rw [decide_eq_true_iff]
  cases I; cases J
  simp
theorem In.same_comm (I J : In) : I.same J = J.same I := by
  rw [Bool.eq_iff_iff, In.same_eq, In.same_eq]; exact eq_comm
theorem In.same_refl (I : In) : I.same I = true := In.same_eq.2 rfl
theorem both_len (a b : List (Nat × Int)) : (both a b).length ≤ a.length := by
  unfold both; split
  · exact Nat.le_refl _
  · simp
theorem In.merge_ok {I J : In} (hi : I.ok) (hj : J.ok) : (I.merge J).ok := by
  obtain ⟨a1, a2, a3, a4⟩ := hi
  obtain ⟨b1, b2, b3, b4⟩ := hj
  refine ⟨Nat.or_lt_two_pow (n := 64) a1 b1, ?_, ?_, Nat.le_trans (both_len _ _) a4⟩
  · exact Nat.lt_of_le_of_lt Nat.and_le_left a2
  · exact Nat.lt_of_le_of_lt Nat.and_le_left a3

/-- a side: its channel and cycle, what it began with, what it heard for this cycle and for a later one, whether it is broken -/
structure Side where
  ch : Int
  cy : Int
  own : Option In
  other : Option In
  kept : Option (Int × In)
  broken : Bool
def Side.new (ch : Int) : Side := ⟨ch, 0, none, none, none, false⟩
def keptAt (k : Option (Int × In)) (cy : Int) : Option In :=
  match k with
  | some (c, J) => if c = cy then some J else none
  | none => none
def keptOn (k : Option (Int × In)) (cy : Int) : Option (Int × In) :=
  match k with
  | some (c, J) => if c ≤ cy then none else some (c, J)
  | none => none
def Side.bCode (s : Side) (cy : Int) : Int := if cy ≤ s.cy then 2 else 0
def Side.bCh (s : Side) (cy : Int) : Int := if cy ≤ s.cy then 0 else s.ch
def Side.bCy (s : Side) (cy : Int) : Int := if cy ≤ s.cy then 0 else cy
def Side.bIn (s : Side) (cy : Int) (I : In) : In := if cy ≤ s.cy then In.zero else I
def Side.begin (s : Side) (cy : Int) (I : In) : Side := if cy ≤ s.cy then s else ⟨s.ch, cy, some I, keptAt s.kept cy, keptOn s.kept cy, false⟩
def Side.hear (s : Side) (ch cy : Int) (I : In) : Side × Int :=
  if ch ≠ 1 - s.ch then (s, 2)
  else if cy < s.cy then (s, 190)
  else if s.cy < cy then
    match s.kept with
    | none => (⟨s.ch, s.cy, s.own, s.other, some (cy, I), s.broken⟩, 0)
    | some (c, J) => if c < cy then (⟨s.ch, s.cy, s.own, s.other, some (cy, I), s.broken⟩, 0) else if c = cy ∧ J.same I = true then (s, 0) else (s, 4)
  else match s.other with
    | none => (⟨s.ch, s.cy, s.own, some I, s.kept, s.broken⟩, 0)
    | some J => if J.same I = true then (s, 0) else (⟨s.ch, s.cy, s.own, s.other, s.kept, true⟩, 4)
def Side.mOk (s : Side) : Bool := s.own.isSome && s.other.isSome && !s.broken
def Side.mIn (s : Side) : In :=
  match s.own, s.other with
  | some I, some J => if s.broken then In.zero else I.merge J
  | _, _ => In.zero

/-! ### what lies in memory -/
/-- the row of commands of an input -/
def InAt (w : World) (a : Option Addr) (cap : Nat) (I : In) : Prop := I.ok ∧ CmdsAt w a I.c ∧ (a = none → cap = 0)
/-- a row's block is one of X -/
def InX (X : Nat → Prop) (a : Option Addr) : Prop := a = none ∨ ∃ h, a = some ⟨h, 0, none⟩ ∧ X h
/-- the block of a row -/
def Blk (a : Option Addr) (k : Nat) : Prop := ∃ x, a = some x ∧ x.block = k
/-- a row that may be written: a block from B on, whole -/
def MyIn (w : World) (B : Nat) (a : Option Addr) : Prop := a = none ∨ ∃ h cur, a = some ⟨h, 0, none⟩ ∧ B ≤ h ∧ w.heap[h]? = some (.cells cur 70 (0, 0))
theorem InAt.below {w w' : World} {a : Option Addr} {cap : Nat} {I : In} (hb : Below w.heap.size w w') (h : InAt w a cap I) : InAt w' a cap I := ⟨h.1, h.2.1.below hb, h.2.2⟩
theorem InAt.nil (w : World) : InAt w none 0 In.zero := ⟨In.zero_ok, ⟨by simp [In.zero], .inl rfl⟩, fun _ => rfl⟩
theorem CmdsAt.keep {w w' : World} {X : Nat → Prop} {a : Option Addr} {l : List (Nat × Int)} (h : CmdsAt w a l) (hx : InX X a) (hk : ∀ k, X k → w'.heap[k]? = w.heap[k]?) : CmdsAt w' a l := by
  refine ⟨h.1, h.2.imp id ?_⟩
  rintro ⟨b, off, rfl, hc⟩
  rcases hx with hx | ⟨g, hx, hg⟩
  · cases hx
  · cases hx
    refine ⟨_, _, rfl, fun i c hi => ?_⟩
    have := hk _ hg
    unfold World.cell? at hc ⊢
    simp only [this]
    exact hc i c hi
theorem InAt.keep {w w' : World} {X : Nat → Prop} {a : Option Addr} {cap : Nat} {I : In} (h : InAt w a cap I) (hx : InX X a) (hk : ∀ k, X k → w'.heap[k]? = w.heap[k]?) : InAt w' a cap I := ⟨h.1, h.2.1.keep hx hk, h.2.2⟩
theorem InX.mono {X Y : Nat → Prop} {a : Option Addr} (h : InX X a) (hxy : ∀ k, X k → Y k) : InX Y a := h.imp id fun ⟨k, e, hk⟩ => ⟨k, e, hxy k hk⟩
theorem MyIn.inX {w : World} {B : Nat} {a : Option Addr} (m : MyIn w B a) : InX (Blk a) a := by
  rcases m with h | ⟨h, cur, e, _⟩
  · exact .inl h
  · exact .inr ⟨h, e, _, e, rfl⟩
theorem MyIn.blk {w : World} {B : Nat} {a : Option Addr} (m : MyIn w B a) {k : Nat} (hk : Blk a k) : B ≤ k ∧ k < w.heap.size := by
  obtain ⟨x, h1, h2⟩ := hk
  rcases m with h | ⟨h, cur, e, hB, hc⟩
  · rw [h] at h1; cases h1
  · rw [e] at h1; cases h1; subst h2; exact ⟨hB, blk_lt hc⟩
theorem MyIn.keep {w w' : World} {B : Nat} {a : Option Addr} (m : MyIn w B a) (hk : ∀ k, Blk a k → w'.heap[k]? = w.heap[k]?) : MyIn w' B a := by
  rcases m with h | ⟨h, cur, e, hB, hc⟩
  · exact .inl h
  · exact .inr ⟨h, cur, e, hB, (hk h ⟨_, e, rfl⟩).trans hc⟩
theorem MyIn.below {w w' : World} {B : Nat} {a : Option Addr} (m : MyIn w B a) (hb : Below w.heap.size w w') : MyIn w' B a := m.keep fun k hk => hb.block k (m.blk hk).2
theorem MyIn.mono {w : World} {B C : Nat} {a : Option Addr} (m : MyIn w B a) (h : C ≤ B) : MyIn w C a := m.imp id fun ⟨k, cur, e, hB, hc⟩ => ⟨k, cur, e, Nat.le_trans h hB, hc⟩
theorem InAt.keepMy {w w' : World} {B : Nat} {a : Option Addr} {cap : Nat} {I : In} (i : InAt w a cap I) (m : MyIn w B a) (hk : ∀ k, Blk a k → w'.heap[k]? = w.heap[k]?) : InAt w' a cap I := i.keep m.inX hk
/-- out of a row of the call's own -/
theorem my_of_own {w : World} {base : Nat} {a : Option Addr} {n cap : Nat} {l : List (Nat × Int)} (I : In) (hl : I.c = l) (hi : I.ok) (hb : ∀ c ∈ l, c.1 < 256 ∧ -9223372036854775808 ≤ c.2 ∧ c.2 ≤ 9223372036854775807) (hn : l.length = n)
    (h : w.ownsRow base 70 2 (.slice a n cap) n (cmdCells l)) : MyIn w base a ∧ InAt w a cap I := by
  subst hl
  obtain ⟨a', cap', e, h1, h2⟩ := own_cmds hb hn h
  cases e
  rcases h.2 with ⟨h, _⟩ | ⟨g, c2, cur, h, hg, hheap, _⟩
  · cases h
    exact ⟨.inl rfl, hi, h1, h2⟩
  · cases h
    exact ⟨.inr ⟨g, cur, rfl, hg, hheap⟩, hi, h1, h2⟩
/-- w' is w with new blocks, and those of Z written -/
structure Bar (Z : Nat → Prop) (w w' : World) : Prop where
  os : w'.os = w.os
  tape : w'.tape = w.tape
  output : w'.output = w.output
  size : w.heap.size ≤ w'.heap.size
  block : ∀ k, k < w.heap.size → ¬ Z k → w'.heap[k]? = w.heap[k]?
theorem Bar.of_below {Z : Nat → Prop} {w w' : World} (h : Below w.heap.size w w') : Bar Z w w' := ⟨h.os, h.tape, h.output, h.size, fun k hk _ => h.block k hk⟩
theorem Bar.of_only {g : Nat} {w w' : World} (h : Only g w w') : Bar (fun k => k = g) w w' := ⟨h.os, h.tape, h.output, h.size, fun k hk e => h.block k hk e⟩
theorem Bar.trans {Z : Nat → Prop} {a b c : World} (h : Bar Z a b) (k : Bar Z b c) : Bar Z a c :=
  ⟨k.os.trans h.os, k.tape.trans h.tape, k.output.trans h.output, Nat.le_trans h.size k.size, fun i hi hg => (k.block i (Nat.lt_of_lt_of_le hi h.size) hg).trans (h.block i hi hg)⟩
theorem Bar.mono {Y Z : Nat → Prop} {a b : World} (h : Bar Y a b) (hyz : ∀ k, Y k → Z k) : Bar Z a b := ⟨h.os, h.tape, h.output, h.size, fun k hk hz => h.block k hk fun hy => hz (hyz k hy)⟩
theorem Bar.below {Z : Nat → Prop} {B : Nat} {a w w' : World} (h : Below B a w) (hB : ∀ k, Z k → B ≤ k) (hs : B ≤ w.heap.size) (k : Bar Z w w') : Below B a w' :=
  ⟨k.os.trans h.os, k.tape.trans h.tape, k.output.trans h.output, Nat.le_trans h.size k.size, fun i hi => (k.block i (Nat.lt_of_lt_of_le hi hs) fun hz => by have := hB i hz; omega).trans (h.block i hi)⟩

/-- a pointer to a reading: its cycle, what was read; its blocks are of X -/
def RdAt (w : World) (X : Nat → Prop) (v : Value) (cy : Int) (I : In) : Prop :=
  ∃ k a cap ch, v = .pointer (some ⟨k, 0, none⟩) ∧ X k ∧ w.heap[k]? = some (.cells #[.int .i64 ch, .int .i64 cy, .int .u64 (I.o : Int), .int .u32 (I.n : Int), .int .u32 (I.r : Int), .slice a I.c.length cap] 35 (0, 0)) ∧ InAt w a cap I ∧ InX X a
def OptAt (w : World) (X : Nat → Prop) (v : Value) : Option (Int × In) → Prop
  | none => v = .pointer none
  | some x => RdAt w X v x.1 x.2
def SideAt (w : World) (X : Nat → Prop) (g : Nat) (s : Side) : Prop :=
  ∃ po pt pk, w.heap[g]? = some (.cells #[.int .i64 s.ch, .int .i64 s.cy, po, pt, pk, .bool s.broken] 72 (0, 0)) ∧ ¬ X g ∧ (∀ k, X k → k < w.heap.size) ∧
    OptAt w X po (s.own.map fun I => (s.cy, I)) ∧ OptAt w X pt (s.other.map fun I => (s.cy, I)) ∧ OptAt w X pk s.kept
theorem RdAt.keep {w w' : World} {X Y : Nat → Prop} {v : Value} {cy : Int} {I : In} (h : RdAt w X v cy I) (hk : ∀ k, X k → w'.heap[k]? = w.heap[k]?) (hxy : ∀ k, X k → Y k) : RdAt w' Y v cy I := by
  obtain ⟨k, a, cap, ch, h1, h2, h3, h4, h5⟩ := h
  exact ⟨k, a, cap, ch, h1, hxy _ h2, (hk _ h2).trans h3, h4.keep h5 hk, h5.mono hxy⟩
theorem OptAt.keep {w w' : World} {X Y : Nat → Prop} {v : Value} {x : Option (Int × In)} (h : OptAt w X v x) (hk : ∀ k, X k → w'.heap[k]? = w.heap[k]?) (hxy : ∀ k, X k → Y k) : OptAt w' Y v x := by
  cases x with
  | none => exact h
  | some x => exact RdAt.keep h hk hxy
theorem SideAt.keep {w w' : World} {X : Nat → Prop} {g : Nat} {s : Side} (h : SideAt w X g s) (hs : w.heap.size ≤ w'.heap.size) (hg : w'.heap[g]? = w.heap[g]?) (hk : ∀ k, X k → w'.heap[k]? = w.heap[k]?) : SideAt w' X g s := by
  obtain ⟨po, pt, pk, h1, h2, h3, h4, h5, h6⟩ := h
  exact ⟨po, pt, pk, hg.trans h1, h2, fun k hx => Nat.lt_of_lt_of_le (h3 k hx) hs, h4.keep hk fun _ h => h, h5.keep hk fun _ h => h, h6.keep hk fun _ h => h⟩
theorem SideAt.lt {w : World} {X : Nat → Prop} {g : Nat} {s : Side} (h : SideAt w X g s) : g < w.heap.size := by
  obtain ⟨po, pt, pk, h1, _⟩ := h; exact blk_lt h1
theorem SideAt.below {w w' : World} {X : Nat → Prop} {g : Nat} {s : Side} (hb : Below w.heap.size w w') (h : SideAt w X g s) : SideAt w' X g s := by
  have hx : ∀ k, X k → k < w.heap.size := by obtain ⟨po, pt, pk, h1, h2, h3, _⟩ := h; exact h3
  exact h.keep hb.size (hb.block g h.lt) fun k hk => hb.block k (hx k hk)
theorem SideAt.only {w w' : World} {X : Nat → Prop} {g b : Nat} {s : Side} (ho : Only b w w') (hg : g ≠ b) (hb : ¬ X b) (h : SideAt w X g s) : SideAt w' X g s := by
  have hx : ∀ k, X k → k < w.heap.size := by obtain ⟨po, pt, pk, h1, h2, h3, _⟩ := h; exact h3
  exact h.keep ho.size (ho.block g h.lt hg) fun k hk => ho.block k (hx k hk) (by rintro rfl; exact hb hk)

theorem SideAt.bound {w : World} {X : Nat → Prop} {g : Nat} {s : Side} (h : SideAt w X g s) : ∀ k, X k → k < w.heap.size := by
  obtain ⟨po, pt, pk, h1, h2, h3, _⟩ := h; exact h3
theorem SideAt.bar {w w' : World} {X Z : Nat → Prop} {g : Nat} {s : Side} (ho : Bar Z w w') (hg : ¬ Z g) (hb : ∀ k, X k → ¬ Z k) (h : SideAt w X g s) : SideAt w' X g s :=
  h.keep ho.size (ho.block g h.lt hg) fun k hk => ho.block k (h.bound k hk) (hb k hk)
/-- the document's: an input in four cells -/
def CellsAt (w : World) (X : Nat → Prop) (c0 c1 c2 c3 : Value) : Option In → Prop
  | none => True
  | some I => ∃ a cap, c0 = .int .u64 (I.o : Int) ∧ c1 = .int .u32 (I.n : Int) ∧ c2 = .int .u32 (I.r : Int) ∧ c3 = .slice a I.c.length cap ∧ InAt w a cap I ∧ InX X a
def RSideAt (w : World) (X : Nat → Prop) (g : Nat) (s : Side) : Prop :=
  ∃ o0 o1 o2 o3 t0 t1 t2 t3 kc ky k0 k1 k2 k3,
    w.heap[g]? = some (.cells #[.int .i64 s.ch, .int .i64 s.cy, .bool s.own.isSome, o0, o1, o2, o3, .bool s.other.isSome, t0, t1, t2, t3, .bool s.kept.isSome, kc, ky, k0, k1, k2, k3, .bool s.broken] 56 (0, 0)) ∧
    ¬ X g ∧ (∀ k, X k → k < w.heap.size) ∧ CellsAt w X o0 o1 o2 o3 s.own ∧ CellsAt w X t0 t1 t2 t3 s.other ∧ CellsAt w X k0 k1 k2 k3 (s.kept.map Prod.snd) ∧ (∀ x, s.kept = some x → ky = .int .i64 x.1)
theorem CellsAt.keep {w w' : World} {X Y : Nat → Prop} {c0 c1 c2 c3 : Value} {x : Option In} (h : CellsAt w X c0 c1 c2 c3 x) (hk : ∀ k, X k → w'.heap[k]? = w.heap[k]?) (hxy : ∀ k, X k → Y k) : CellsAt w' Y c0 c1 c2 c3 x := by
  cases x with
  | none => trivial
  | some I =>
    obtain ⟨a, cap, h0, h1, h2, h3, h4, h5⟩ := h
    exact ⟨a, cap, h0, h1, h2, h3, h4.keep h5 hk, h5.mono hxy⟩
theorem RSideAt.keep {w w' : World} {X : Nat → Prop} {g : Nat} {s : Side} (h : RSideAt w X g s) (hs : w.heap.size ≤ w'.heap.size) (hg : w'.heap[g]? = w.heap[g]?) (hk : ∀ k, X k → w'.heap[k]? = w.heap[k]?) : RSideAt w' X g s := by
  obtain ⟨o0, o1, o2, o3, t0, t1, t2, t3, kc, ky, k0, k1, k2, k3, h1, h2, h3, h4, h5, h6, h7⟩ := h
  exact ⟨o0, o1, o2, o3, t0, t1, t2, t3, kc, ky, k0, k1, k2, k3, hg.trans h1, h2, fun k hx => Nat.lt_of_lt_of_le (h3 k hx) hs, h4.keep hk fun _ h => h, h5.keep hk fun _ h => h, h6.keep hk fun _ h => h, h7⟩
theorem RSideAt.lt {w : World} {X : Nat → Prop} {g : Nat} {s : Side} (h : RSideAt w X g s) : g < w.heap.size := by
  obtain ⟨o0, o1, o2, o3, t0, t1, t2, t3, kc, ky, k0, k1, k2, k3, h1, _⟩ := h; exact blk_lt h1
theorem RSideAt.bound {w : World} {X : Nat → Prop} {g : Nat} {s : Side} (h : RSideAt w X g s) : ∀ k, X k → k < w.heap.size := by
  obtain ⟨o0, o1, o2, o3, t0, t1, t2, t3, kc, ky, k0, k1, k2, k3, h1, h2, h3, _⟩ := h; exact h3
theorem RSideAt.bar {w w' : World} {X Z : Nat → Prop} {g : Nat} {s : Side} (ho : Bar Z w w') (hg : ¬ Z g) (hb : ∀ k, X k → ¬ Z k) (h : RSideAt w X g s) : RSideAt w' X g s :=
  h.keep ho.size (ho.block g h.lt hg) fun k hk => ho.block k (h.bound k hk) (hb k hk)
theorem RSideAt.below {w w' : World} {X : Nat → Prop} {g : Nat} {s : Side} (hb : Below w.heap.size w w') (h : RSideAt w X g s) : RSideAt w' X g s :=
  h.keep hb.size (hb.block g h.lt) fun k hk => hb.block k (h.bound k hk)
theorem RSideAt.only {w w' : World} {X : Nat → Prop} {g b : Nat} {s : Side} (ho : Only b w w') (hg : g ≠ b) (hb : ¬ X b) (h : RSideAt w X g s) : RSideAt w' X g s :=
  h.keep ho.size (ho.block g h.lt hg) fun k hk => ho.block k (h.bound k hk) (by rintro rfl; exact hb hk)
theorem blk_drewN {w : World} {g : Nat} {o : Obj} (h : w.heap[g]? = some o) (n : Nat) : (w.drewN n).heap[g]? = some o := h
theorem heap_new1 (w : World) (o : Obj) : (w.alloc o).heap[w.heap.size]? = some o := by
  show (w.heap.push o)[w.heap.size]? = some o
  simp
theorem below_drewN {B : Nat} {a b : World} (h : Below B a b) (n : Nat) : Below B a (b.drewN n) := ⟨h.os, h.tape, h.output, h.size, h.block⟩
theorem name_world {P : Program} {c : Code} {Q : Exit → Act → World → Prop} {a : Act} {w : World} (h : ∀ W, W = w → c.wp P Q a W) : c.wp P Q a w := h w rfl
end Go.Proofs.Ytbbacmlcimgjbaa
