/-
 Layer 29: safety.Cycle.
-/
import Derived.Test.YthnpekbmaapgnaaSaD
import Derived.Test.YthnpekbmaapgnaaUntilV
import Derived.Test.YthnpekbmaapgnaaMA
import Derived.Test.YthnpekbmaapgnaaME
namespace Go.Proofs.Ythnpekbmaapgnaa
open Go.RowKit
set_option maxRecDepth 100000
theorem info_rt9 : (Try.prog.info? 54).map (fun i => (i.zero, i.size, i.bytes)) = some (some (.agg #[.string ⟨#[]⟩, .int .i64 0, .slice none 0 0, .slice none 0 0, .slice none 0 0, .slice none 0 0]), 6, 120) := by kernel_rfl
theorem own_grown {w W : World} {base : Nat} {e : TypeId} {sz : Nat} {v : Value} {n : Nat} {xs : List Value} {row : Option Nat} (h : w.grownBy W row) (ho : w.ownsRow base e sz v n xs) (hne : ∀ k, v.ownBlock = some k → row ≠ some k) : W.ownsRow base e sz v n xs := by
 refine ⟨ho.1, ho.2.imp id ?_⟩
 rintro ⟨g, cap, cur, h1, h2, h3, h4⟩
 exact ⟨g, cap, cur, h1, h2, grown_keep h h3 (hne g (by rw [h1]; rfl)), h4⟩
theorem own_sh {w : World} {base : Nat} {e : TypeId} {sz : Nat} {v : Value} {n : Nat} {xs : List Value} (h : w.ownsRow base e sz v n xs) : ∃ a c, v = .slice a n c := by
 rcases h.2 with ⟨h1, h2⟩ | ⟨g, cap, cur, h1, _⟩
 ·exact ⟨none, 0, by rw [h1, h2]⟩
 ·exact ⟨_, _, h1⟩
/-- what lies in memory while two rows grow: numbers and routes that are shown -/
structure Ts (w w7 W : World) (B gx : Nat) (X : List Value) (kI : Int) (sa sb : Option Nat) (v9 v10 : Value) (R : List Rt) (I : List Int) : Prop where
 old : ∀ k o, k < B → w7.heap[k]? = some o → W.heap[k]? = some o
 below : Below w.heap.size w W
 bx : W.heap[gx]? = some (.cells X.toArray 54)
 o9 : W.ownsRow B 54 6 v9 R.length (R.flatMap rtC)
 o10 : W.ownsRow B 3 1 v10 I.length (I.flatMap intC)
 ne : ∀ k, v9.ownBlock = some k → v10.ownBlock ≠ some k
 nx9 : v9.ownBlock ≠ some gx
 nx10 : v10.ownBlock ≠ some gx
 ha : ∀ g, sa = some g → W.heap[g]? = some (.cells X.toArray 54) ∧ v9.ownBlock ≠ some g ∧ v10.ownBlock ≠ some g
 hb : ∀ g, sb = some g → W.heap[g]? = some (.cells #[.int .i64 kI] 3) ∧ v9.ownBlock ≠ some g ∧ v10.ownBlock ≠ some g
 wB : w.heap.size ≤ B
 big : B ≤ W.heap.size
variable {w w7 W W' : World} {B gx : Nat} {X : List Value} {kI : Int} {sa sb : Option Nat} {v9 v10 v' : Value} {R : List Rt} {I : List Int}
theorem Ts.drew (h : Ts w w7 W B gx X kI sa sb v9 v10 R I) : Ts w w7 W.drew B gx X kI sa sb v9 v10 R I :=
 ⟨h.old, h.below.drew, h.bx, h.o9, h.o10, h.ne, h.nx9, h.nx10, h.ha, h.hb, h.wB, h.big⟩
theorem Ts.step (h : Ts w w7 W B gx X kI sa sb v9 v10 R I) (hb : Below W.heap.size W W') : Ts w w7 W' B gx X kI sa sb v9 v10 R I :=
 ⟨fun k o hk hq => blk_keep hb (h.old k o hk hq), below_on h.below hb, blk_keep hb h.bx, own_below hb h.o9, own_below hb h.o10, h.ne, h.nx9, h.nx10, fun g hg => ⟨blk_keep hb (h.ha g hg).1, (h.ha g hg).2⟩, fun g hg => ⟨blk_keep hb (h.hb g hg).1, (h.hb g hg).2⟩, h.wB, Nat.le_trans h.big hb.size⟩
theorem own_ne_size {w : World} {base : Nat} {e : TypeId} {sz : Nat} {v : Value} {n : Nat} {xs : List Value} (h : w.ownsRow base e sz v n xs) : v.ownBlock ≠ some w.heap.size := fun e => by have := (h.lt _ e).2; omega
theorem Ts.bA (h : Ts w w7 W B gx X kI none sb v9 v10 R I) : Ts w w7 (W.alloc (.cells X.toArray 54)) B gx X kI (some W.heap.size) sb v9 v10 R I := by
 have h2 := h.step (below1 W (.cells X.toArray 54))
 refine ⟨h2.old, h2.below, h2.bx, h2.o9, h2.o10, h2.ne, h2.nx9, h2.nx10, fun g hg => ?_, h2.hb, h2.wB, h2.big⟩
 injection hg with hg
 subst hg
 exact ⟨alloc1 W _ (Below.refl _ _), own_ne_size h.o9, own_ne_size h.o10⟩
theorem Ts.bB (h : Ts w w7 W B gx X kI sa none v9 v10 R I) : Ts w w7 (W.alloc (.cells #[.int .i64 kI] 3)) B gx X kI sa (some W.heap.size) v9 v10 R I := by
 have h2 := h.step (below1 W (.cells #[.int .i64 kI] 3))
 refine ⟨h2.old, h2.below, h2.bx, h2.o9, h2.o10, h2.ne, h2.nx9, h2.nx10, h2.ha, fun g hg => ?_, h2.wB, h2.big⟩
 injection hg with hg
 subst hg
 exact ⟨alloc1 W _ (Below.refl _ _), own_ne_size h.o9, own_ne_size h.o10⟩
theorem Ts.aA {x : Rt} (h : Ts w w7 W B gx X kI sa sb v9 v10 R I) (hX : X = rtC x) (ho : W'.ownsRow B 54 6 v' (R.length + 1) (R.flatMap rtC ++ X)) (hg : W.grownBy W' v9.ownBlock) (hn : Value.newOr W v9 v') : Ts w w7 W' B gx X kI none sb v' v10 (R ++ [x]) I := by
 have hlt : ∀ k, v9.ownBlock = some k → B ≤ k ∧ k < W.heap.size := h.o9.lt
 have hnew : ∀ g, g < W.heap.size → v9.ownBlock ≠ some g → v'.ownBlock ≠ some g := fun g h1 h2 e => by
  rcases hn with hn | ⟨k, hk, hle⟩
  ·exact h2 (hn ▸ e)
  ·rw [hk] at e; injection e with e; omega
 refine ⟨fun k o hk hq => grown_keep hg (h.old k o hk hq) (fun e => by have := (hlt k e).1; omega), h.below.grown hg h.below.size (fun k e => by have := (hlt k e).1; have := h.wB; omega), grown_keep hg h.bx h.nx9, ?_, own_grown hg h.o10 (fun k e e2 => h.ne k e2 e), fun k e e2 => ?_, hnew gx (blk_lt h.bx) h.nx9, h.nx10, fun g e => (by cases e), fun g e => ⟨grown_keep hg (h.hb g e).1 (h.hb g e).2.1, hnew g (blk_lt (h.hb g e).1) (h.hb g e).2.1, (h.hb g e).2.2⟩, h.wB, Nat.le_trans h.big hg.size⟩
 ·rw [List.flatMap_append, List.length_append]
  show W'.ownsRow B 54 6 v' (R.length + 1) (R.flatMap rtC ++ (rtC x ++ []))
  rw [List.append_nil, ← hX]
  exact ho
 ·exact hnew k (h.o10.lt k e2).2 (fun e3 => h.ne k e3 e2) e
theorem Ts.aB (h : Ts w w7 W B gx X kI sa sb v9 v10 R I) (ho : W'.ownsRow B 3 1 v' (I.length + 1) (I.flatMap intC ++ [.int .i64 kI])) (hg : W.grownBy W' v10.ownBlock) (hn : Value.newOr W v10 v') : Ts w w7 W' B gx X kI sa none v9 v' R (I ++ [kI]) := by
 have hlt : ∀ k, v10.ownBlock = some k → B ≤ k ∧ k < W.heap.size := h.o10.lt
 have hnew : ∀ g, g < W.heap.size → v10.ownBlock ≠ some g → v'.ownBlock ≠ some g := fun g h1 h2 e => by
  rcases hn with hn | ⟨k, hk, hle⟩
  ·exact h2 (hn ▸ e)
  ·rw [hk] at e; injection e with e; omega
 refine ⟨fun k o hk hq => grown_keep hg (h.old k o hk hq) (fun e => by have := (hlt k e).1; omega), h.below.grown hg h.below.size (fun k e => by have := (hlt k e).1; have := h.wB; omega), grown_keep hg h.bx h.nx10, own_grown hg h.o9 (fun k e e2 => h.ne k e e2), ?_, fun k e e2 => ?_, h.nx9, hnew gx (blk_lt h.bx) h.nx10, fun g e => ⟨grown_keep hg (h.ha g e).1 (h.ha g e).2.2, (h.ha g e).2.1, hnew g (blk_lt (h.ha g e).1) (h.ha g e).2.2⟩, fun g e => (by cases e), h.wB, Nat.le_trans h.big hg.size⟩
 ·rw [List.flatMap_append, List.length_append]
  exact ho
 ·exact hnew k (h.o9.lt k e).2 (h.ne k e) e2
theorem all3 {α : Type} {p : α → Prop} {a b c : α} (ha : p a) (hb : p b) (hc : p c) : ∀ t ∈ [a, b, c], p t := by
 intro t ht
 rcases List.mem_cons.1 ht with rfl | ht
 ·exact ha
 ·rcases List.mem_cons.1 ht with rfl | ht
  ·exact hb
  ·rcases List.mem_cons.1 ht with rfl | ht
   ·exact hc
   ·cases ht
theorem box6 {w : World} {g : Nat} {v0 v1 v2 v3 v4 v5 : Value} {t : TypeId} (h : w.heap[g]? = some (.cells #[v0, v1, v2, v3, v4, v5] t)) : w.cell? ⟨g, 0, none⟩ = some v0 ∧ w.cell? ⟨g, 1, none⟩ = some v1 ∧ w.cell? ⟨g, 2, none⟩ = some v2 ∧ w.cell? ⟨g, 3, none⟩ = some v3 ∧ w.cell? ⟨g, 4, none⟩ = some v4 ∧ w.cell? ⟨g, 5, none⟩ = some v5 :=
 ⟨blk_cell h 0 _ rfl, blk_cell h 1 _ rfl, blk_cell h 2 _ rfl, blk_cell h 3 _ rfl, blk_cell h 4 _ rfl, blk_cell h 5 _ rfl⟩
attribute [local irreducible] ixF Sl.v pairS hasBit mayS Rt.tr Rt.nd checkS pw claI occS lieS turS shI shR withBit
/-- what lies in memory at each turn of the first loop -/
structure RwS (w wr : World) (B gl gi go g9 g10 : Nat) (CL CI CO : Obj) (v9 v10 : Value) (R : List Rt) (I : List Int) : Prop where
 ql : wr.heap[gl]? = some CL
 qi : wr.heap[gi]? = some CI
 qo : wr.heap[go]? = some CO
 q9 : wr.heap[g9]? = some (.cells #[v9] 25)
 q10 : wr.heap[g10]? = some (.cells #[v10] 51)
 o9 : wr.ownsRow B 54 6 v9 R.length (R.flatMap rtC)
 o10 : wr.ownsRow B 3 1 v10 I.length (I.flatMap intC)
 ne : ∀ k, v9.ownBlock = some k → v10.ownBlock ≠ some k
 below : Below w.heap.size w wr
 big : B ≤ wr.heap.size
theorem RwS.step {w wr W : World} {B gl gi go g9 g10 : Nat} {CL CI CO : Obj} {v9 v10 : Value} {R : List Rt} {I : List Int} (h : RwS w wr B gl gi go g9 g10 CL CI CO v9 v10 R I) (hb : Below wr.heap.size wr W) : RwS w W B gl gi go g9 g10 CL CI CO v9 v10 R I :=
 ⟨blk_keep hb h.ql, blk_keep hb h.qi, blk_keep hb h.qo, blk_keep hb h.q9, blk_keep hb h.q10, own_below hb h.o9, own_below hb h.o10, h.ne, below_on h.below hb, Nat.le_trans h.big hb.size⟩
theorem RwS.fin {w w7 V VA VB : World} {B gl gi go g9 g10 gx : Nat} {X : List Value} {kI : Int} {CL CI CO : Obj} {v9 v10 v9n v10n : Value} {R R2 : List Rt} {I I2 : List Int} (h : RwS w w7 B gl gi go g9 g10 CL CI CO v9 v10 R I) (hs : Ts w w7 V B gx X kI none none v9n v10n R2 I2)
 (oa : Only g9 V VA) (qa : VA.heap[g9]? = some (.cells #[v9n] 25)) (ob : Only g10 VA VB) (qb : VB.heap[g10]? = some (.cells #[v10n] 51)) (hl : gl < g9) (hi : gi < g9) (ho : go < g9) (h9 : g9 < g10) (h10 : g10 < B) (hw : w.heap.size ≤ gl) (hw2 : w.heap.size ≤ g9) : RwS w VB B gl gi go g9 g10 CL CI CO v9n v10n R2 I2 := by
 have kA : ∀ x o, x ≠ g9 → x ≠ g10 → V.heap[x]? = some o → VB.heap[x]? = some o := fun x o h1 h2 h3 => ob.keep h2 (oa.keep h1 h3)
 have own : ∀ {e : TypeId} {sz n : Nat} {v : Value} {xs : List Value}, V.ownsRow B e sz v n xs → VB.ownsRow B e sz v n xs := by
  intro e sz n v xs hv
  refine ⟨hv.1, hv.2.imp id ?_⟩
  rintro ⟨g, cap, cur, h1, h2, h3, h4⟩
  exact ⟨g, cap, cur, h1, h2, kA g _ (by omega) (by omega) h3, h4⟩
 refine ⟨kA _ _ (by omega) (by omega) (hs.old gl _ (by omega) h.ql), kA _ _ (by omega) (by omega) (hs.old gi _ (by omega) h.qi), kA _ _ (by omega) (by omega) (hs.old go _ (by omega) h.qo), ob.keep (by omega) qa, qb, own hs.o9, own hs.o10, hs.ne, ?_, ?_⟩
 ·exact Only.below (Only.below hs.below hw2 hs.below.size oa) (by omega) (Nat.le_trans hs.below.size oa.size) ob
 ·exact Nat.le_trans (Nat.le_trans hs.big oa.size) ob.size
end Go.Proofs.Ythnpekbmaapgnaa
