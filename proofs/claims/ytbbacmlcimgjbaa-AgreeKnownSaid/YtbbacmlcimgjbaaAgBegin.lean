/-
  The walk of package agree: Begin.
-/
import Derived.Test.YtbbacmlcimgjbaaAgArgs
import Derived.RegionTactic
namespace Go.Proofs.Ytbbacmlcimgjbaa
open Go.RowKit
attribute [local irreducible] shortB fewB In.ok InAt MyIn LongAt In.same In.merge both cmdCells

theorem CmdsAt.keepB {w w' : World} {a : Option Addr} {l : List (Nat × Int)} (h : CmdsAt w a l) (hk : ∀ k, Blk a k → k < w.heap.size → w'.heap[k]? = w.heap[k]?) : CmdsAt w' a l := by
  refine ⟨h.1, h.2.imp id ?_⟩
  rintro ⟨b, off, rfl, hc⟩
  refine ⟨_, _, rfl, fun i c hi => ?_⟩
  have hl : b < w.heap.size := World.block_lt_of_cell? _ ⟨b, _, none⟩ (hc i c hi).1
  have := hk b ⟨_, rfl, rfl⟩ hl
  unfold World.cell? at hc ⊢
  simp only [this]
  exact hc i c hi
theorem InAt.keepB {w w' : World} {a : Option Addr} {cap : Nat} {I : In} (h : InAt w a cap I) (hk : ∀ k, Blk a k → k < w.heap.size → w'.heap[k]? = w.heap[k]?) : InAt w' a cap I := by
  unfold InAt at *
  exact ⟨h.1, h.2.1.keepB hk, h.2.2⟩
theorem InAt.only {w w' : World} {g : Nat} {a : Option Addr} {cap : Nat} {I : In} (h : InAt w a cap I) (hg : I.c ≠ [] → ¬ Blk a g) (ho : Only g w w') : InAt w' a cap I := by
  by_cases hc : I.c = []
  · unfold InAt at *
    exact ⟨h.1, ⟨by rw [hc]; simp, .inl hc⟩, h.2.2⟩
  · exact h.keepB fun k hk hl => ho.block k hl (by rintro rfl; exact hg hc hk)
/-- X' is X and blocks from lo to hi -/
def Gr (X X' : Nat → Prop) (lo hi : Nat) : Prop := ∀ j, X' j → X j ∨ (lo ≤ j ∧ j < hi)
def Plus (X : Nat → Prop) (lo hi : Nat) (j : Nat) : Prop := X j ∨ (lo ≤ j ∧ j < hi)
theorem Plus.gr {X : Nat → Prop} {lo hi l h : Nat} (h1 : l ≤ lo) (h2 : hi ≤ h) : Gr X (Plus X lo hi) l h := fun _ hj => hj.imp id fun h => ⟨by omega, by omega⟩
theorem MyIn.inPlus {w : World} {L M : Nat} {a : Option Addr} (m : MyIn w L a) (hM : w.heap.size ≤ M) (X : Nat → Prop) : InX (Plus X L M) a := by
  rcases m.form with h | ⟨h, cur, e, hB, hc⟩
  · exact .inl h
  · exact .inr ⟨h, e, .inr ⟨hB, by have := blk_lt hc; omega⟩⟩
theorem name_then {K : Act → World → Prop} {Q : Exit → Act → World → Prop} {a : Act} {w : World} (h : ∀ W, W = w → Exit.then K Q Exit.normal a W) : Exit.then K Q Exit.normal a w := h w rfl
theorem name_calls {P : Program} {f : Nat} {args : Array Value} {Q : Ending → World → Prop} {w : World} (h : ∀ W, W = w → Calls P f args W Q) : Calls P f args w Q := h w rfl

theorem my_only {w w' : World} {B q : Nat} {a : Option Addr} {cap : Nat} {I : In} (m : MyIn w B a ∧ InAt w a cap I) (ho : Only q w w') (hq : q < B) : MyIn w' B a ∧ InAt w' a cap I := by
  have hk : ∀ k, Blk a k → w'.heap[k]? = w.heap[k]? := fun k hk => ho.block k (m.1.blk hk).2 (by have := (m.1.blk hk).1; omega)
  exact ⟨m.1.keep hk, m.2.keepMy m.1 hk⟩
theorem Only.after {g q : Nat} {a b c : World} (h : Only g a b) (k : Only q b c) (hq : a.heap.size ≤ q) : Only g a c :=
  ⟨k.os.trans h.os, k.tape.trans h.tape, k.output.trans h.output, Nat.le_trans h.size k.size, fun i hi hg => (k.block i (Nat.lt_of_lt_of_le hi h.size) (by omega)).trans (h.block i hi hg)⟩
theorem only6 (w : World) (g : Nat) (v0 v1 v2 v3 v4 v5 : Value) : Only g w ((((((w.setCell ⟨g, 0, none⟩ v0).setCell ⟨g, 1, none⟩ v1).setCell ⟨g, 2, none⟩ v2).setCell ⟨g, 3, none⟩ v3).setCell ⟨g, 4, none⟩ v4).setCell ⟨g, 5, none⟩ v5) :=
  ((((((Only.refl g w).setCell (p := ⟨g, 0, none⟩) rfl v0).setCell (p := ⟨g, 1, none⟩) rfl v1).setCell (p := ⟨g, 2, none⟩) rfl v2).setCell (p := ⟨g, 3, none⟩) rfl v3).setCell (p := ⟨g, 4, none⟩) rfl v4).setCell (p := ⟨g, 5, none⟩) rfl v5
theorem optAt_none (w : World) (X : Nat → Prop) : OptAt w X (.pointer none) none := rfl

/-- what holds of a side behind Begin -/
theorem SideAt.begun {w w' : World} {X : Nat → Prop} {g : Nat} {s : Side} (h : SideAt w X g s) (I : In) (cy : Int) {k1 L M cap1 : Nat} {a1 : Option Addr} {pt pk : Value} (hcy : ¬ cy ≤ s.cy)
    (hk1 : w'.heap[k1]? = some (.cells #[.int .i64 s.ch, .int .i64 cy, .int .u64 (I.o : Int), .int .u32 (I.n : Int), .int .u32 (I.r : Int), .slice a1 I.c.length cap1] 35 (0, 0))) (hin : InAt w' a1 cap1 I)
    (hL : L ≤ k1 ∧ k1 < M) (hwL : w.heap.size ≤ L) (hx : InX (Plus X L M) a1) (hM : M ≤ w'.heap.size) (hkeep : ∀ j, X j → w'.heap[j]? = w.heap[j]?)
    (hblk : w'.heap[g]? = some (.cells #[.int .i64 s.ch, .int .i64 cy, .pointer (some ⟨k1, 0, none⟩), pt, pk, .bool false] 72 (0, 0)))
    (hpt : OptAt w X pt ((keptAt s.kept cy).map fun J => (cy, J))) (hpk : OptAt w X pk (keptOn s.kept cy)) : SideAt w' (Plus X L M) g (s.begin cy I) := by
  have hlt := h.lt
  have hbd := h.bound
  obtain ⟨po, pt', pk', h1, h2, h3, _⟩ := h
  have hup : ∀ j, X j → Plus X L M j := fun j hj => .inl hj
  unfold Side.begin
  rw [if_neg hcy]
  refine ⟨_, pt, pk, hblk, ?_, ?_, ⟨k1, a1, cap1, s.ch, rfl, .inr hL, hk1, hin, hx⟩, hpt.keep hkeep hup, hpk.keep hkeep hup⟩
  · rintro (h | h)
    · exact h2 h
    · omega
  · rintro k (h | h)
    · have := hbd k h; omega
    · omega

attribute [local irreducible] SideAt OptAt RdAt

theorem begin_arg (s : Side) (X : Nat → Prop) (g : Nat) (cy : Int) (I : In) (a : Option Addr) (cap : Nat) (w : World) (h : SideAt w X g s) (hcy : cy ≤ s.cy) :
    Calls Try.prog 13 #[.pointer (some ⟨g, 0, none⟩), .int .i64 cy, .agg #[.int .u64 (I.o : Int), .int .u32 (I.n : Int), .int .u32 (I.r : Int), .slice a I.c.length cap]] w
      fun e w' => e = .returned (.tuple #[.agg #[.int .i64 0, .int .i64 0, .int .u64 0, .int .u32 0, .int .u32 0, .slice none 0 0], .int .i64 2]) ∧ Below w.heap.size w w' := by
  unfold SideAt at h
  obtain ⟨po, pt, pk, h1, _⟩ := h
  have e1 := blk_cell h1 1 _ rfl
  have hgl := blk_lt h1
  have hs : ¬ g = w.heap.size + 1 := by omega
  clear h1
  have d1 : decide (cy ≤ s.cy) = true := decide_eq_true hcy
  go_enter Try.func13, Try.ntmps13
  go_wp2_with fail
  exact bodyPost_ret (v := .tuple #[.agg #[.int .i64 0, .int .i64 0, .int .u64 0, .int .u32 0, .int .u32 0, .slice none 0 0], .int .i64 2]) (by simp [results, Try.results13, go_sem]) rfl ⟨rfl, below2' _ _ _⟩
theorem nbegin (cy : Int) (I : In) (a : Option Addr) (n cap : Nat) (w : World) :
    Calls Try.prog 13 #[.pointer none, .int .i64 cy, .agg #[.int .u64 (I.o : Int), .int .u32 (I.n : Int), .int .u32 (I.r : Int), .slice a n cap]] w
      fun e w' => e = .returned (.tuple #[.agg #[.int .i64 0, .int .i64 0, .int .u64 0, .int .u32 0, .int .u32 0, .slice none 0 0], .int .i64 1]) ∧ Below w.heap.size w w' := by
  go_enter Try.func13, Try.ntmps13
  go_wp2_with fail
  refine bodyPost_ret (v := .tuple #[.agg #[.int .i64 0, .int .i64 0, .int .u64 0, .int .u32 0, .int .u32 0, .slice none 0 0], .int .i64 1]) (by simp [results, Try.results13, go_sem]) rfl ⟨rfl, below2' _ _ _⟩

set_option maxHeartbeats 2000000 in
theorem begin_none (s : Side) (X : Nat → Prop) (g : Nat) (cy : Int) (I : In) (a : Option Addr) (cap : Nat) (w : World) (h : SideAt w X g s) (hcy : ¬ cy ≤ s.cy) (hin : InAt w a cap I) (hag : I.c ≠ [] → ¬ Blk a g) (hk : s.kept = none) :
    Calls Try.prog 13 #[.pointer (some ⟨g, 0, none⟩), .int .i64 cy, .agg #[.int .u64 (I.o : Int), .int .u32 (I.n : Int), .int .u32 (I.r : Int), .slice a I.c.length cap]] w
      fun e w' => ∃ X' M a' cap', e = .returned (.tuple #[.agg #[.int .i64 s.ch, .int .i64 cy, .int .u64 (I.o : Int), .int .u32 (I.n : Int), .int .u32 (I.r : Int), .slice a' I.c.length cap'], .int .i64 0]) ∧
        SideAt w' X' g (s.begin cy I) ∧ Gr X X' w.heap.size M ∧ w.heap.size ≤ M ∧ MyIn w' M a' ∧ InAt w' a' cap' I ∧ Only g w w' := by
  have HS := Lib.hid h
  have hlt := h.lt
  unfold SideAt at h
  obtain ⟨po, pt, pk, h1, hXg, hbd, _, _, h6⟩ := h
  rw [hk] at h6
  unfold OptAt at h6
  subst h6
  have hpt : OptAt w X (.pointer none) ((keptAt s.kept cy).map fun J => (cy, J)) := by rw [hk]; unfold OptAt; rfl
  have hpk : OptAt w X (.pointer none) (keptOn s.kept cy) := by rw [hk]; unfold OptAt; rfl
  have HK := Lib.hid hk
  have HG := Lib.hid hag
  have e0 := blk_cell h1 0 _ rfl
  have e1 := blk_cell h1 1 _ rfl
  have e2 := blk_cell h1 2 _ rfl
  have e3 := blk_cell h1 3 _ rfl
  have e4 := blk_cell h1 4 _ rfl
  have e5 := blk_cell h1 5 _ rfl
  have f0 := blk_free h1
  have d1 : decide (cy ≤ s.cy) = false := decide_eq_false hcy
  have HB := Lib.hid hbd
  have HC := Lib.hid hcy
  have HPT := Lib.hid hpt
  have HPK := Lib.hid hpk
  have HXG := Lib.hid hXg
  clear hk hag hbd hcy hpt hpk hXg
  go_enter Try.func13, Try.ntmps13
  go_wp2_with fail
  refine name_world ?_
  intro W hW
  obtain ⟨k0, k1⟩ := new2 hW
  have hB := below_of_eq (below2' _ _ _) hW
  have hWs := size2 hW
  have kg := blk_keep hB h1
  have g0 := blk_cell kg 0 _ rfl
  have a0 := blk_cell k0 0 _ rfl
  have a1 := blk_cell k0 1 _ rfl
  have a2 := blk_cell k0 2 _ rfl
  have a3 := blk_cell k0 3 _ rfl
  have l0 := blk_lt k0
  have lg := blk_lt kg
  have HW := Lib.hid hWs
  clear hW e0 e1 e2 e3 e4 e5 f0 hWs d1
  go_region
  refine name_then ?_
  intro W1 hW1
  obtain ⟨c0, hW1b, hW1s⟩ : W1.heap[W.heap.size]? = some (Obj.cells #[.int .i64 s.ch, .int .i64 cy, .int .u64 (I.o : Int), .int .u32 (I.n : Int), .int .u32 (I.r : Int), .slice a I.c.length cap] 35) ∧ Below W.heap.size W W1 ∧ W1.heap.size = W.heap.size + 1 := by
    rw [hW1]
    exact ⟨heap_new1 _ _, (below1 _ _).drew, Array.size_push ..⟩
  have k1 := blk_keep hW1b k1
  have kg := blk_keep hW1b kg
  have hB1 := below_on hB hW1b
  have hin1 := hin.below hB1
  obtain ⟨z, hz⟩ : ∃ z, z = W.heap.size := ⟨_, rfl⟩
  have hW1l : W1.heap.size = w.heap.size + 3 := by rw [hW1s, HW.out]
  have hzl : z = w.heap.size + 2 := by rw [hz, HW.out]
  rw [← hz] at c0 ⊢
  have z0 := blk_cell c0 0 _ rfl
  have z1 := blk_cell c0 1 _ rfl
  have z2 := blk_cell c0 2 _ rfl
  have z3 := blk_cell c0 3 _ rfl
  have z4 := blk_cell c0 4 _ rfl
  have z5 := blk_cell c0 5 _ rfl
  have HZ := Lib.hid hzl
  have HW1 := Lib.hid hW1l
  clear hW1 hW1s hz hzl hW1l g0 a0 a1 a2 a3 l0 lg k0 hW1b hB
  go_wp2_with fail
  refine (clone_is I s.ch cy a cap W1 hin1).mono ?_
  rintro e w1 ⟨kk, a1, c1, rfl, hk1, hkl, hkb, hm1, hi1, hb1⟩
  have k1 := blk_keep hb1 k1
  have kg := blk_keep hb1 kg
  have c0 := blk_keep hb1 c0
  have hB2 := below_on hB1 hb1
  have hin2 := hin1.below hb1
  have g0 := blk_cell kg 0 _ rfl
  have g1 := blk_cell kg 1 _ rfl
  have g2 := blk_cell kg 2 _ rfl
  have g3 := blk_cell kg 3 _ rfl
  have g4 := blk_cell kg 4 _ rfl
  have g5 := blk_cell kg 5 _ rfl
  have fg := blk_free kg
  have z0 := blk_cell c0 0 _ rfl
  have z1 := blk_cell c0 1 _ rfl
  have z2 := blk_cell c0 2 _ rfl
  have z3 := blk_cell c0 3 _ rfl
  have z4 := blk_cell c0 4 _ rfl
  have z5 := blk_cell c0 5 _ rfl
  have hzg : ¬ g = z := by have := HZ.out; omega
  have kks : kk < w1.heap.size := blk_lt hk1
  have HBL := Lib.hid (fun k hk => (hm1.blk (k := k) hk).2)
  have HS1 := Lib.hid hb1.size
  clear hb1 hB1 hin1
  go_wp2_with fail
  refine name_calls ?_
  intro W2 hW2
  have kg2 : W2.heap[g]? = some (.cells #[.int .i64 s.ch, .int .i64 cy, .pointer (some ⟨kk, 0, none⟩), .pointer none, .pointer none, .bool false] 72 (0, 0)) := by
    rw [hW2]; exact blk_set (blk_set (blk_set (blk_set (kg) 1 _) 2 _) 3 _) 5 _
  have ho2 : Only g w1 W2 := by
    rw [hW2]; exact Only.setCell (Only.setCell (Only.setCell (Only.setCell (Only.refl g w1) rfl _) rfl _) rfl _) rfl _
  have hkg1 : ¬ kk = g := by have := HW1.out; omega
  have hk1 := ho2.keep hkg1 hk1
  have k1 := ho2.keep (show ¬ w.heap.size + 1 = g by omega) k1
  have c0 := ho2.keep (fun e => hzg e.symm) c0
  have hmy1 := my_only ⟨hm1, hi1⟩ ho2 (by have := HW1.out; omega)
  have hin3 := hin2.only HG.out ho2
  have kkl : kk < W2.heap.size := blk_lt hk1
  have ho3 : Only g w W2 := (Only.of_below hB2).trans ho2
  have HS2 := Lib.hid ho2.size
  clear hW2 g0 g1 g2 g3 g4 g5 fg z0 z1 z2 z3 z4 z5 kg hin2 hB2 ho2
  refine (clone_is I s.ch cy a cap W2 hin3).mono ?_
  rintro e w3 ⟨k2, a2, c2, rfl, hk2, hk2l, hk2b, hm3, hi3, hb3⟩
  have k1 := blk_keep hb3 k1
  have kg2 := blk_keep hb3 kg2
  have hk1 := blk_keep hb3 hk1
  have hmy1 := my_below hb3 hmy1
  have ho4 := ho3.trans (Only.of_below hb3)
  have r0 := blk_cell hk2 0 _ rfl
  have r1 := blk_cell hk2 1 _ rfl
  have r2 := blk_cell hk2 2 _ rfl
  have r3 := blk_cell hk2 3 _ rfl
  have r4 := blk_cell hk2 4 _ rfl
  have r5 := blk_cell hk2 5 _ rfl
  have q0 := blk_cell k1 0 _ rfl
  have q1 := blk_cell k1 1 _ rfl
  have q2 := blk_cell k1 2 _ rfl
  have q3 := blk_cell k1 3 _ rfl
  have q4 := blk_cell k1 4 _ rfl
  have q5 := blk_cell k1 5 _ rfl
  have fq := blk_free k1
  have hs3 : w.heap.size + 1 < w3.heap.size := blk_lt k1
  have hne : ¬ w.heap.size + 1 = k2 := by have := HW1.out; have := HS1.out; have := HS2.out; omega
  have hne2 : ¬ k2 = w.heap.size + 1 := fun e => hne e.symm
  clear hin3 c0 HZ hzg
  have hb3s := Lib.hid (Nat.le_trans HS2.out hb3.size)
  have hHB : ∀ j, X j → W2.heap[j]? = w.heap[j]? := fun j hj => ho3.block j (HB.out j hj) (by rintro rfl; exact HXG.out hj)
  have HHB := Lib.hid (fun j (hj : X j) => (hb3.block j (by have := HB.out j hj; have := ho3.size; omega)).trans (hHB j hj))
  clear hb3 ho3 hHB
  go_wp2_with fail
  have hfin : Only (w.heap.size + 1) w3 ((((((w3.setCell ⟨w.heap.size + 1, 0, none⟩ (.int .i64 s.ch)).setCell ⟨w.heap.size + 1, 1, none⟩ (.int .i64 cy)).setCell ⟨w.heap.size + 1, 2, none⟩ (.int .u64 (I.o : Int))).setCell ⟨w.heap.size + 1, 3, none⟩ (.int .u32 (I.n : Int))).setCell ⟨w.heap.size + 1, 4, none⟩ (.int .u32 (I.r : Int))).setCell ⟨w.heap.size + 1, 5, none⟩ (.slice a2 I.c.length c2)) := only6 w3 _ _ _ _ _ _ _
  refine bodyPost_ret (v := .tuple #[.agg #[.int .i64 s.ch, .int .i64 cy, .int .u64 (I.o : Int), .int .u32 (I.n : Int), .int .u32 (I.r : Int), .slice a2 I.c.length c2], .int .i64 0]) (by simp [results, Try.results13, go_sem, q0, q1, q2, q3, q4, q5]) rfl ?_
  have n1 := HW1.out
  have n2 := HS1.out
  have n3 := HS2.out
  have hmy1 := my_only hmy1 hfin (by omega)
  have hmy3 := my_only ⟨hm3, hi3⟩ hfin (by omega)
  have hg3 := hfin.keep (show ¬ g = w.heap.size + 1 by omega) kg2
  have hk3 := hfin.keep (show ¬ kk = w.heap.size + 1 by omega) hk1
  have hk3s := blk_lt kg2
  have hsz : w1.heap.size ≤ w3.heap.size := by have := hb3s.out; omega
  refine ⟨Plus X W1.heap.size w1.heap.size, w1.heap.size, a2, c2, rfl, ?_, Plus.gr (by omega) (Nat.le_refl _), by omega, hmy3.1.mono n3, hmy3.2, ho4.after hfin (by omega)⟩
  refine HS.out.begun I cy (by have := HC.out; omega) hk3 hmy1.2 ⟨hkl, kks⟩ (by omega) ?_ ?_ ?_ hg3 HPT.out HPK.out
  · rcases hmy1.1.form with h | ⟨b, cur, h, hB1, hB2⟩
    · exact .inl h
    · exact .inr ⟨b, h, .inr ⟨hB1, HBL.out b ⟨_, h, rfl⟩⟩⟩
  · exact Nat.le_trans hsz hfin.size
  · intro j hj
    have := HB.out j hj
    exact (hfin.block j (by omega) (by omega)).trans (HHB.out j hj)

set_option maxHeartbeats 2000000 in
theorem begin_lt (s : Side) (X : Nat → Prop) (g : Nat) (cy : Int) (I : In) (a : Option Addr) (cap : Nat) (w : World) (h : SideAt w X g s) (hcy : ¬ cy ≤ s.cy) (hin : InAt w a cap I) (hag : I.c ≠ [] → ¬ Blk a g) (c : Int) (J : In) (hk : s.kept = some (c, J)) (hc : c < cy) :
    Calls Try.prog 13 #[.pointer (some ⟨g, 0, none⟩), .int .i64 cy, .agg #[.int .u64 (I.o : Int), .int .u32 (I.n : Int), .int .u32 (I.r : Int), .slice a I.c.length cap]] w
      fun e w' => ∃ X' M a' cap', e = .returned (.tuple #[.agg #[.int .i64 s.ch, .int .i64 cy, .int .u64 (I.o : Int), .int .u32 (I.n : Int), .int .u32 (I.r : Int), .slice a' I.c.length cap'], .int .i64 0]) ∧
        SideAt w' X' g (s.begin cy I) ∧ Gr X X' w.heap.size M ∧ w.heap.size ≤ M ∧ MyIn w' M a' ∧ InAt w' a' cap' I ∧ Only g w w' := by
  have HS := Lib.hid h
  have hlt := h.lt
  unfold SideAt at h
  obtain ⟨po, pt, pk, h1, hXg, hbd, _, _, h6⟩ := h
  rw [hk] at h6
  have HPT : Hid (OptAt w X (.pointer none) ((keptAt s.kept cy).map fun J => (cy, J))) := Lib.hid (by rw [hk]; unfold keptAt; simp only []; rw [if_neg (show ¬ c = cy by omega)]; unfold OptAt; rfl)
  have HPK : Hid (OptAt w X (.pointer none) (keptOn s.kept cy)) := Lib.hid (by rw [hk]; unfold keptOn; simp only []; rw [if_pos (show c ≤ cy by omega)]; unfold OptAt; rfl)
  unfold OptAt RdAt at h6
  obtain ⟨kp, ap, cp, chp, rfl, hXk, kp0, _, _⟩ := h6
  have hkg : ¬ kp = g := by rintro rfl; exact hXg hXk
  have hgk : ¬ g = kp := fun e => hkg e.symm
  have hpt := HPT.out
  have hpk := HPK.out
  clear HPT HPK
  have u1 : decide (c ≤ cy) = true := decide_eq_true (by omega)
  have u2 : (c == cy) = false := by simpa using (show ¬ c = cy by omega)
  clear hc
  have HK := Lib.hid hk
  have HG := Lib.hid hag
  have e0 := blk_cell h1 0 _ rfl
  have e1 := blk_cell h1 1 _ rfl
  have e2 := blk_cell h1 2 _ rfl
  have e3 := blk_cell h1 3 _ rfl
  have e4 := blk_cell h1 4 _ rfl
  have e5 := blk_cell h1 5 _ rfl
  have f0 := blk_free h1
  have d1 : decide (cy ≤ s.cy) = false := decide_eq_false hcy
  have HB := Lib.hid hbd
  have HC := Lib.hid hcy
  have HPT := Lib.hid hpt
  have HPK := Lib.hid hpk
  have HXG := Lib.hid hXg
  clear hk hag hbd hcy hpt hpk hXg
  go_enter Try.func13, Try.ntmps13
  go_wp2_with fail
  refine name_world ?_
  intro W hW
  obtain ⟨k0, k1⟩ := new2 hW
  have hB := below_of_eq (below2' _ _ _) hW
  have hWs := size2 hW
  have kg := blk_keep hB h1
  have g0 := blk_cell kg 0 _ rfl
  have a0 := blk_cell k0 0 _ rfl
  have a1 := blk_cell k0 1 _ rfl
  have a2 := blk_cell k0 2 _ rfl
  have a3 := blk_cell k0 3 _ rfl
  have l0 := blk_lt k0
  have lg := blk_lt kg
  have HW := Lib.hid hWs
  clear hW e0 e1 e2 e3 e4 e5 f0 hWs d1
  go_region
  refine name_then ?_
  intro W1 hW1
  obtain ⟨c0, hW1b, hW1s⟩ : W1.heap[W.heap.size]? = some (Obj.cells #[.int .i64 s.ch, .int .i64 cy, .int .u64 (I.o : Int), .int .u32 (I.n : Int), .int .u32 (I.r : Int), .slice a I.c.length cap] 35) ∧ Below W.heap.size W W1 ∧ W1.heap.size = W.heap.size + 1 := by
    rw [hW1]
    exact ⟨heap_new1 _ _, (below1 _ _).drew, Array.size_push ..⟩
  have k1 := blk_keep hW1b k1
  have kg := blk_keep hW1b kg
  have hB1 := below_on hB hW1b
  have hin1 := hin.below hB1
  obtain ⟨z, hz⟩ : ∃ z, z = W.heap.size := ⟨_, rfl⟩
  have hW1l : W1.heap.size = w.heap.size + 3 := by rw [hW1s, HW.out]
  have hzl : z = w.heap.size + 2 := by rw [hz, HW.out]
  rw [← hz] at c0 ⊢
  have z0 := blk_cell c0 0 _ rfl
  have z1 := blk_cell c0 1 _ rfl
  have z2 := blk_cell c0 2 _ rfl
  have z3 := blk_cell c0 3 _ rfl
  have z4 := blk_cell c0 4 _ rfl
  have z5 := blk_cell c0 5 _ rfl
  have HZ := Lib.hid hzl
  have HW1 := Lib.hid hW1l
  clear hW1 hW1s hz hzl hW1l g0 a0 a1 a2 a3 l0 lg k0 hW1b hB
  go_wp2_with fail
  refine (clone_is I s.ch cy a cap W1 hin1).mono ?_
  rintro e w1 ⟨kk, a1, c1, rfl, hk1, hkl, hkb, hm1, hi1, hb1⟩
  have k1 := blk_keep hb1 k1
  have kg := blk_keep hb1 kg
  have c0 := blk_keep hb1 c0
  have hB2 := below_on hB1 hb1
  have hin2 := hin1.below hb1
  have g0 := blk_cell kg 0 _ rfl
  have g1 := blk_cell kg 1 _ rfl
  have g2 := blk_cell kg 2 _ rfl
  have g3 := blk_cell kg 3 _ rfl
  have g4 := blk_cell kg 4 _ rfl
  have g5 := blk_cell kg 5 _ rfl
  have fg := blk_free kg
  have z0 := blk_cell c0 0 _ rfl
  have z1 := blk_cell c0 1 _ rfl
  have z2 := blk_cell c0 2 _ rfl
  have z3 := blk_cell c0 3 _ rfl
  have z4 := blk_cell c0 4 _ rfl
  have z5 := blk_cell c0 5 _ rfl
  have hzg : ¬ g = z := by have := HZ.out; omega
  have p1 := blk_cell (blk_keep hB2 kp0) 1 _ rfl
  have kks : kk < w1.heap.size := blk_lt hk1
  have HBL := Lib.hid (fun k hk => (hm1.blk (k := k) hk).2)
  have HS1 := Lib.hid hb1.size
  clear hb1 hB1 hin1
  go_wp2_with fail
  refine name_calls ?_
  intro W2 hW2
  have kg2 : W2.heap[g]? = some (.cells #[.int .i64 s.ch, .int .i64 cy, .pointer (some ⟨kk, 0, none⟩), .pointer none, .pointer none, .bool false] 72 (0, 0)) := by
    rw [hW2]; exact blk_set (blk_set (blk_set (blk_set (blk_set (kg) 1 _) 2 _) 3 _) 5 _) 4 _
  have ho2 : Only g w1 W2 := by
    rw [hW2]; exact Only.setCell (Only.setCell (Only.setCell (Only.setCell (Only.setCell (Only.refl g w1) rfl _) rfl _) rfl _) rfl _) rfl _
  have hkg1 : ¬ kk = g := by have := HW1.out; omega
  have hk1 := ho2.keep hkg1 hk1
  have k1 := ho2.keep (show ¬ w.heap.size + 1 = g by omega) k1
  have c0 := ho2.keep (fun e => hzg e.symm) c0
  have hmy1 := my_only ⟨hm1, hi1⟩ ho2 (by have := HW1.out; omega)
  have hin3 := hin2.only HG.out ho2
  have kkl : kk < W2.heap.size := blk_lt hk1
  have ho3 : Only g w W2 := (Only.of_below hB2).trans ho2
  have HS2 := Lib.hid ho2.size
  clear hW2 g0 g1 g2 g3 g4 g5 fg z0 z1 z2 z3 z4 z5 kg hin2 hB2 ho2
  refine (clone_is I s.ch cy a cap W2 hin3).mono ?_
  rintro e w3 ⟨k2, a2, c2, rfl, hk2, hk2l, hk2b, hm3, hi3, hb3⟩
  have k1 := blk_keep hb3 k1
  have kg2 := blk_keep hb3 kg2
  have hk1 := blk_keep hb3 hk1
  have hmy1 := my_below hb3 hmy1
  have ho4 := ho3.trans (Only.of_below hb3)
  have r0 := blk_cell hk2 0 _ rfl
  have r1 := blk_cell hk2 1 _ rfl
  have r2 := blk_cell hk2 2 _ rfl
  have r3 := blk_cell hk2 3 _ rfl
  have r4 := blk_cell hk2 4 _ rfl
  have r5 := blk_cell hk2 5 _ rfl
  have q0 := blk_cell k1 0 _ rfl
  have q1 := blk_cell k1 1 _ rfl
  have q2 := blk_cell k1 2 _ rfl
  have q3 := blk_cell k1 3 _ rfl
  have q4 := blk_cell k1 4 _ rfl
  have q5 := blk_cell k1 5 _ rfl
  have fq := blk_free k1
  have hs3 : w.heap.size + 1 < w3.heap.size := blk_lt k1
  have hne : ¬ w.heap.size + 1 = k2 := by have := HW1.out; have := HS1.out; have := HS2.out; omega
  have hne2 : ¬ k2 = w.heap.size + 1 := fun e => hne e.symm
  clear hin3 c0 HZ hzg
  have hb3s := Lib.hid (Nat.le_trans HS2.out hb3.size)
  have hHB : ∀ j, X j → W2.heap[j]? = w.heap[j]? := fun j hj => ho3.block j (HB.out j hj) (by rintro rfl; exact HXG.out hj)
  have HHB := Lib.hid (fun j (hj : X j) => (hb3.block j (by have := HB.out j hj; have := ho3.size; omega)).trans (hHB j hj))
  clear hb3 ho3 hHB
  go_wp2_with fail
  have hfin : Only (w.heap.size + 1) w3 ((((((w3.setCell ⟨w.heap.size + 1, 0, none⟩ (.int .i64 s.ch)).setCell ⟨w.heap.size + 1, 1, none⟩ (.int .i64 cy)).setCell ⟨w.heap.size + 1, 2, none⟩ (.int .u64 (I.o : Int))).setCell ⟨w.heap.size + 1, 3, none⟩ (.int .u32 (I.n : Int))).setCell ⟨w.heap.size + 1, 4, none⟩ (.int .u32 (I.r : Int))).setCell ⟨w.heap.size + 1, 5, none⟩ (.slice a2 I.c.length c2)) := only6 w3 _ _ _ _ _ _ _
  refine bodyPost_ret (v := .tuple #[.agg #[.int .i64 s.ch, .int .i64 cy, .int .u64 (I.o : Int), .int .u32 (I.n : Int), .int .u32 (I.r : Int), .slice a2 I.c.length c2], .int .i64 0]) (by simp [results, Try.results13, go_sem, q0, q1, q2, q3, q4, q5]) rfl ?_
  have n1 := HW1.out
  have n2 := HS1.out
  have n3 := HS2.out
  have hmy1 := my_only hmy1 hfin (by omega)
  have hmy3 := my_only ⟨hm3, hi3⟩ hfin (by omega)
  have hg3 := hfin.keep (show ¬ g = w.heap.size + 1 by omega) kg2
  have hk3 := hfin.keep (show ¬ kk = w.heap.size + 1 by omega) hk1
  have hk3s := blk_lt kg2
  have hsz : w1.heap.size ≤ w3.heap.size := by have := hb3s.out; omega
  refine ⟨Plus X W1.heap.size w1.heap.size, w1.heap.size, a2, c2, rfl, ?_, Plus.gr (by omega) (Nat.le_refl _), by omega, hmy3.1.mono n3, hmy3.2, ho4.after hfin (by omega)⟩
  refine HS.out.begun I cy (by have := HC.out; omega) hk3 hmy1.2 ⟨hkl, kks⟩ (by omega) ?_ ?_ ?_ hg3 HPT.out HPK.out
  · rcases hmy1.1.form with h | ⟨b, cur, h, hB1, hB2⟩
    · exact .inl h
    · exact .inr ⟨b, h, .inr ⟨hB1, HBL.out b ⟨_, h, rfl⟩⟩⟩
  · exact Nat.le_trans hsz hfin.size
  · intro j hj
    have := HB.out j hj
    exact (hfin.block j (by omega) (by omega)).trans (HHB.out j hj)

set_option maxHeartbeats 2000000 in
theorem begin_eq (s : Side) (X : Nat → Prop) (g : Nat) (cy : Int) (I : In) (a : Option Addr) (cap : Nat) (w : World) (h : SideAt w X g s) (hcy : ¬ cy ≤ s.cy) (hin : InAt w a cap I) (hag : I.c ≠ [] → ¬ Blk a g) (c : Int) (J : In) (hk : s.kept = some (c, J)) (hc : c = cy) :
    Calls Try.prog 13 #[.pointer (some ⟨g, 0, none⟩), .int .i64 cy, .agg #[.int .u64 (I.o : Int), .int .u32 (I.n : Int), .int .u32 (I.r : Int), .slice a I.c.length cap]] w
      fun e w' => ∃ X' M a' cap', e = .returned (.tuple #[.agg #[.int .i64 s.ch, .int .i64 cy, .int .u64 (I.o : Int), .int .u32 (I.n : Int), .int .u32 (I.r : Int), .slice a' I.c.length cap'], .int .i64 0]) ∧
        SideAt w' X' g (s.begin cy I) ∧ Gr X X' w.heap.size M ∧ w.heap.size ≤ M ∧ MyIn w' M a' ∧ InAt w' a' cap' I ∧ Only g w w' := by
  have HS := Lib.hid h
  have hlt := h.lt
  unfold SideAt at h
  obtain ⟨po, pt, pk, h1, hXg, hbd, _, _, h6⟩ := h
  rw [hk] at h6
  have HPT : Hid (OptAt w X (pk) ((keptAt s.kept cy).map fun J => (cy, J))) := Lib.hid (by rw [hk]; unfold keptAt; simp only []; rw [if_pos hc]; subst hc; exact h6)
  have HPK : Hid (OptAt w X (.pointer none) (keptOn s.kept cy)) := Lib.hid (by rw [hk]; unfold keptOn; simp only []; rw [if_pos (show c ≤ cy by omega)]; unfold OptAt; rfl)
  unfold OptAt RdAt at h6
  obtain ⟨kp, ap, cp, chp, rfl, hXk, kp0, _, _⟩ := h6
  have hkg : ¬ kp = g := by rintro rfl; exact hXg hXk
  have hgk : ¬ g = kp := fun e => hkg e.symm
  have hpt := HPT.out
  have hpk := HPK.out
  clear HPT HPK
  have u1 : decide (c ≤ c) = true := decide_eq_true (by omega)
  have u2 : (c == c) = true := by simp
  subst hc
  have HK := Lib.hid hk
  have HG := Lib.hid hag
  have e0 := blk_cell h1 0 _ rfl
  have e1 := blk_cell h1 1 _ rfl
  have e2 := blk_cell h1 2 _ rfl
  have e3 := blk_cell h1 3 _ rfl
  have e4 := blk_cell h1 4 _ rfl
  have e5 := blk_cell h1 5 _ rfl
  have f0 := blk_free h1
  have d1 : decide (c ≤ s.cy) = false := decide_eq_false hcy
  have HB := Lib.hid hbd
  have HC := Lib.hid hcy
  have HPT := Lib.hid hpt
  have HPK := Lib.hid hpk
  have HXG := Lib.hid hXg
  clear hk hag hbd hcy hpt hpk hXg
  go_enter Try.func13, Try.ntmps13
  go_wp2_with fail
  refine name_world ?_
  intro W hW
  obtain ⟨k0, k1⟩ := new2 hW
  have hB := below_of_eq (below2' _ _ _) hW
  have hWs := size2 hW
  have kg := blk_keep hB h1
  have g0 := blk_cell kg 0 _ rfl
  have a0 := blk_cell k0 0 _ rfl
  have a1 := blk_cell k0 1 _ rfl
  have a2 := blk_cell k0 2 _ rfl
  have a3 := blk_cell k0 3 _ rfl
  have l0 := blk_lt k0
  have lg := blk_lt kg
  have HW := Lib.hid hWs
  clear hW e0 e1 e2 e3 e4 e5 f0 hWs d1
  go_region
  refine name_then ?_
  intro W1 hW1
  obtain ⟨c0, hW1b, hW1s⟩ : W1.heap[W.heap.size]? = some (Obj.cells #[.int .i64 s.ch, .int .i64 c, .int .u64 (I.o : Int), .int .u32 (I.n : Int), .int .u32 (I.r : Int), .slice a I.c.length cap] 35) ∧ Below W.heap.size W W1 ∧ W1.heap.size = W.heap.size + 1 := by
    rw [hW1]
    exact ⟨heap_new1 _ _, (below1 _ _).drew, Array.size_push ..⟩
  have k1 := blk_keep hW1b k1
  have kg := blk_keep hW1b kg
  have hB1 := below_on hB hW1b
  have hin1 := hin.below hB1
  obtain ⟨z, hz⟩ : ∃ z, z = W.heap.size := ⟨_, rfl⟩
  have hW1l : W1.heap.size = w.heap.size + 3 := by rw [hW1s, HW.out]
  have hzl : z = w.heap.size + 2 := by rw [hz, HW.out]
  rw [← hz] at c0 ⊢
  have z0 := blk_cell c0 0 _ rfl
  have z1 := blk_cell c0 1 _ rfl
  have z2 := blk_cell c0 2 _ rfl
  have z3 := blk_cell c0 3 _ rfl
  have z4 := blk_cell c0 4 _ rfl
  have z5 := blk_cell c0 5 _ rfl
  have HZ := Lib.hid hzl
  have HW1 := Lib.hid hW1l
  clear hW1 hW1s hz hzl hW1l g0 a0 a1 a2 a3 l0 lg k0 hW1b hB
  go_wp2_with fail
  refine (clone_is I s.ch c a cap W1 hin1).mono ?_
  rintro e w1 ⟨kk, a1, c1, rfl, hk1, hkl, hkb, hm1, hi1, hb1⟩
  have k1 := blk_keep hb1 k1
  have kg := blk_keep hb1 kg
  have c0 := blk_keep hb1 c0
  have hB2 := below_on hB1 hb1
  have hin2 := hin1.below hb1
  have g0 := blk_cell kg 0 _ rfl
  have g1 := blk_cell kg 1 _ rfl
  have g2 := blk_cell kg 2 _ rfl
  have g3 := blk_cell kg 3 _ rfl
  have g4 := blk_cell kg 4 _ rfl
  have g5 := blk_cell kg 5 _ rfl
  have fg := blk_free kg
  have z0 := blk_cell c0 0 _ rfl
  have z1 := blk_cell c0 1 _ rfl
  have z2 := blk_cell c0 2 _ rfl
  have z3 := blk_cell c0 3 _ rfl
  have z4 := blk_cell c0 4 _ rfl
  have z5 := blk_cell c0 5 _ rfl
  have hzg : ¬ g = z := by have := HZ.out; omega
  have p1 := blk_cell (blk_keep hB2 kp0) 1 _ rfl
  have kks : kk < w1.heap.size := blk_lt hk1
  have HBL := Lib.hid (fun k hk => (hm1.blk (k := k) hk).2)
  have HS1 := Lib.hid hb1.size
  clear hb1 hB1 hin1
  go_wp2_with fail
  refine name_calls ?_
  intro W2 hW2
  have kg2 : W2.heap[g]? = some (.cells #[.int .i64 s.ch, .int .i64 c, .pointer (some ⟨kk, 0, none⟩), .pointer (some ⟨kp, 0, none⟩), .pointer none, .bool false] 72 (0, 0)) := by
    rw [hW2]; exact blk_set (blk_set (blk_set (blk_set (blk_set (blk_set (kg) 1 _) 2 _) 3 _) 5 _) 4 _) 3 _
  have ho2 : Only g w1 W2 := by
    rw [hW2]; exact Only.setCell (Only.setCell (Only.setCell (Only.setCell (Only.setCell (Only.setCell (Only.refl g w1) rfl _) rfl _) rfl _) rfl _) rfl _) rfl _
  have hkg1 : ¬ kk = g := by have := HW1.out; omega
  have hk1 := ho2.keep hkg1 hk1
  have k1 := ho2.keep (show ¬ w.heap.size + 1 = g by omega) k1
  have c0 := ho2.keep (fun e => hzg e.symm) c0
  have hmy1 := my_only ⟨hm1, hi1⟩ ho2 (by have := HW1.out; omega)
  have hin3 := hin2.only HG.out ho2
  have kkl : kk < W2.heap.size := blk_lt hk1
  have ho3 : Only g w W2 := (Only.of_below hB2).trans ho2
  have HS2 := Lib.hid ho2.size
  clear hW2 g0 g1 g2 g3 g4 g5 fg z0 z1 z2 z3 z4 z5 kg hin2 hB2 ho2
  refine (clone_is I s.ch c a cap W2 hin3).mono ?_
  rintro e w3 ⟨k2, a2, c2, rfl, hk2, hk2l, hk2b, hm3, hi3, hb3⟩
  have k1 := blk_keep hb3 k1
  have kg2 := blk_keep hb3 kg2
  have hk1 := blk_keep hb3 hk1
  have hmy1 := my_below hb3 hmy1
  have ho4 := ho3.trans (Only.of_below hb3)
  have r0 := blk_cell hk2 0 _ rfl
  have r1 := blk_cell hk2 1 _ rfl
  have r2 := blk_cell hk2 2 _ rfl
  have r3 := blk_cell hk2 3 _ rfl
  have r4 := blk_cell hk2 4 _ rfl
  have r5 := blk_cell hk2 5 _ rfl
  have q0 := blk_cell k1 0 _ rfl
  have q1 := blk_cell k1 1 _ rfl
  have q2 := blk_cell k1 2 _ rfl
  have q3 := blk_cell k1 3 _ rfl
  have q4 := blk_cell k1 4 _ rfl
  have q5 := blk_cell k1 5 _ rfl
  have fq := blk_free k1
  have hs3 : w.heap.size + 1 < w3.heap.size := blk_lt k1
  have hne : ¬ w.heap.size + 1 = k2 := by have := HW1.out; have := HS1.out; have := HS2.out; omega
  have hne2 : ¬ k2 = w.heap.size + 1 := fun e => hne e.symm
  clear hin3 c0 HZ hzg
  have hb3s := Lib.hid (Nat.le_trans HS2.out hb3.size)
  have hHB : ∀ j, X j → W2.heap[j]? = w.heap[j]? := fun j hj => ho3.block j (HB.out j hj) (by rintro rfl; exact HXG.out hj)
  have HHB := Lib.hid (fun j (hj : X j) => (hb3.block j (by have := HB.out j hj; have := ho3.size; omega)).trans (hHB j hj))
  clear hb3 ho3 hHB
  go_wp2_with fail
  have hfin : Only (w.heap.size + 1) w3 ((((((w3.setCell ⟨w.heap.size + 1, 0, none⟩ (.int .i64 s.ch)).setCell ⟨w.heap.size + 1, 1, none⟩ (.int .i64 c)).setCell ⟨w.heap.size + 1, 2, none⟩ (.int .u64 (I.o : Int))).setCell ⟨w.heap.size + 1, 3, none⟩ (.int .u32 (I.n : Int))).setCell ⟨w.heap.size + 1, 4, none⟩ (.int .u32 (I.r : Int))).setCell ⟨w.heap.size + 1, 5, none⟩ (.slice a2 I.c.length c2)) := only6 w3 _ _ _ _ _ _ _
  refine bodyPost_ret (v := .tuple #[.agg #[.int .i64 s.ch, .int .i64 c, .int .u64 (I.o : Int), .int .u32 (I.n : Int), .int .u32 (I.r : Int), .slice a2 I.c.length c2], .int .i64 0]) (by simp [results, Try.results13, go_sem, q0, q1, q2, q3, q4, q5]) rfl ?_
  have n1 := HW1.out
  have n2 := HS1.out
  have n3 := HS2.out
  have hmy1 := my_only hmy1 hfin (by omega)
  have hmy3 := my_only ⟨hm3, hi3⟩ hfin (by omega)
  have hg3 := hfin.keep (show ¬ g = w.heap.size + 1 by omega) kg2
  have hk3 := hfin.keep (show ¬ kk = w.heap.size + 1 by omega) hk1
  have hk3s := blk_lt kg2
  have hsz : w1.heap.size ≤ w3.heap.size := by have := hb3s.out; omega
  refine ⟨Plus X W1.heap.size w1.heap.size, w1.heap.size, a2, c2, rfl, ?_, Plus.gr (by omega) (Nat.le_refl _), by omega, hmy3.1.mono n3, hmy3.2, ho4.after hfin (by omega)⟩
  refine HS.out.begun I c (by have := HC.out; omega) hk3 hmy1.2 ⟨hkl, kks⟩ (by omega) ?_ ?_ ?_ hg3 HPT.out HPK.out
  · rcases hmy1.1.form with h | ⟨b, cur, h, hB1, hB2⟩
    · exact .inl h
    · exact .inr ⟨b, h, .inr ⟨hB1, HBL.out b ⟨_, h, rfl⟩⟩⟩
  · exact Nat.le_trans hsz hfin.size
  · intro j hj
    have := HB.out j hj
    exact (hfin.block j (by omega) (by omega)).trans (HHB.out j hj)

set_option maxHeartbeats 2000000 in
theorem begin_gt (s : Side) (X : Nat → Prop) (g : Nat) (cy : Int) (I : In) (a : Option Addr) (cap : Nat) (w : World) (h : SideAt w X g s) (hcy : ¬ cy ≤ s.cy) (hin : InAt w a cap I) (hag : I.c ≠ [] → ¬ Blk a g) (c : Int) (J : In) (hk : s.kept = some (c, J)) (hc : cy < c) :
    Calls Try.prog 13 #[.pointer (some ⟨g, 0, none⟩), .int .i64 cy, .agg #[.int .u64 (I.o : Int), .int .u32 (I.n : Int), .int .u32 (I.r : Int), .slice a I.c.length cap]] w
      fun e w' => ∃ X' M a' cap', e = .returned (.tuple #[.agg #[.int .i64 s.ch, .int .i64 cy, .int .u64 (I.o : Int), .int .u32 (I.n : Int), .int .u32 (I.r : Int), .slice a' I.c.length cap'], .int .i64 0]) ∧
        SideAt w' X' g (s.begin cy I) ∧ Gr X X' w.heap.size M ∧ w.heap.size ≤ M ∧ MyIn w' M a' ∧ InAt w' a' cap' I ∧ Only g w w' := by
  have HS := Lib.hid h
  have hlt := h.lt
  unfold SideAt at h
  obtain ⟨po, pt, pk, h1, hXg, hbd, _, _, h6⟩ := h
  rw [hk] at h6
  have HPT : Hid (OptAt w X (.pointer none) ((keptAt s.kept cy).map fun J => (cy, J))) := Lib.hid (by rw [hk]; unfold keptAt; simp only []; rw [if_neg (show ¬ c = cy by omega)]; unfold OptAt; rfl)
  have HPK : Hid (OptAt w X (pk) (keptOn s.kept cy)) := Lib.hid (by rw [hk]; unfold keptOn; simp only []; rw [if_neg (show ¬ c ≤ cy by omega)]; exact h6)
  unfold OptAt RdAt at h6
  obtain ⟨kp, ap, cp, chp, rfl, hXk, kp0, _, _⟩ := h6
  have hkg : ¬ kp = g := by rintro rfl; exact hXg hXk
  have hgk : ¬ g = kp := fun e => hkg e.symm
  have hpt := HPT.out
  have hpk := HPK.out
  clear HPT HPK
  have u1 : decide (c ≤ cy) = false := decide_eq_false (by omega)
  clear hc
  have HK := Lib.hid hk
  have HG := Lib.hid hag
  have e0 := blk_cell h1 0 _ rfl
  have e1 := blk_cell h1 1 _ rfl
  have e2 := blk_cell h1 2 _ rfl
  have e3 := blk_cell h1 3 _ rfl
  have e4 := blk_cell h1 4 _ rfl
  have e5 := blk_cell h1 5 _ rfl
  have f0 := blk_free h1
  have d1 : decide (cy ≤ s.cy) = false := decide_eq_false hcy
  have HB := Lib.hid hbd
  have HC := Lib.hid hcy
  have HPT := Lib.hid hpt
  have HPK := Lib.hid hpk
  have HXG := Lib.hid hXg
  clear hk hag hbd hcy hpt hpk hXg
  go_enter Try.func13, Try.ntmps13
  go_wp2_with fail
  refine name_world ?_
  intro W hW
  obtain ⟨k0, k1⟩ := new2 hW
  have hB := below_of_eq (below2' _ _ _) hW
  have hWs := size2 hW
  have kg := blk_keep hB h1
  have g0 := blk_cell kg 0 _ rfl
  have a0 := blk_cell k0 0 _ rfl
  have a1 := blk_cell k0 1 _ rfl
  have a2 := blk_cell k0 2 _ rfl
  have a3 := blk_cell k0 3 _ rfl
  have l0 := blk_lt k0
  have lg := blk_lt kg
  have HW := Lib.hid hWs
  clear hW e0 e1 e2 e3 e4 e5 f0 hWs d1
  go_region
  refine name_then ?_
  intro W1 hW1
  obtain ⟨c0, hW1b, hW1s⟩ : W1.heap[W.heap.size]? = some (Obj.cells #[.int .i64 s.ch, .int .i64 cy, .int .u64 (I.o : Int), .int .u32 (I.n : Int), .int .u32 (I.r : Int), .slice a I.c.length cap] 35) ∧ Below W.heap.size W W1 ∧ W1.heap.size = W.heap.size + 1 := by
    rw [hW1]
    exact ⟨heap_new1 _ _, (below1 _ _).drew, Array.size_push ..⟩
  have k1 := blk_keep hW1b k1
  have kg := blk_keep hW1b kg
  have hB1 := below_on hB hW1b
  have hin1 := hin.below hB1
  obtain ⟨z, hz⟩ : ∃ z, z = W.heap.size := ⟨_, rfl⟩
  have hW1l : W1.heap.size = w.heap.size + 3 := by rw [hW1s, HW.out]
  have hzl : z = w.heap.size + 2 := by rw [hz, HW.out]
  rw [← hz] at c0 ⊢
  have z0 := blk_cell c0 0 _ rfl
  have z1 := blk_cell c0 1 _ rfl
  have z2 := blk_cell c0 2 _ rfl
  have z3 := blk_cell c0 3 _ rfl
  have z4 := blk_cell c0 4 _ rfl
  have z5 := blk_cell c0 5 _ rfl
  have HZ := Lib.hid hzl
  have HW1 := Lib.hid hW1l
  clear hW1 hW1s hz hzl hW1l g0 a0 a1 a2 a3 l0 lg k0 hW1b hB
  go_wp2_with fail
  refine (clone_is I s.ch cy a cap W1 hin1).mono ?_
  rintro e w1 ⟨kk, a1, c1, rfl, hk1, hkl, hkb, hm1, hi1, hb1⟩
  have k1 := blk_keep hb1 k1
  have kg := blk_keep hb1 kg
  have c0 := blk_keep hb1 c0
  have hB2 := below_on hB1 hb1
  have hin2 := hin1.below hb1
  have g0 := blk_cell kg 0 _ rfl
  have g1 := blk_cell kg 1 _ rfl
  have g2 := blk_cell kg 2 _ rfl
  have g3 := blk_cell kg 3 _ rfl
  have g4 := blk_cell kg 4 _ rfl
  have g5 := blk_cell kg 5 _ rfl
  have fg := blk_free kg
  have z0 := blk_cell c0 0 _ rfl
  have z1 := blk_cell c0 1 _ rfl
  have z2 := blk_cell c0 2 _ rfl
  have z3 := blk_cell c0 3 _ rfl
  have z4 := blk_cell c0 4 _ rfl
  have z5 := blk_cell c0 5 _ rfl
  have hzg : ¬ g = z := by have := HZ.out; omega
  have p1 := blk_cell (blk_keep hB2 kp0) 1 _ rfl
  have kks : kk < w1.heap.size := blk_lt hk1
  have HBL := Lib.hid (fun k hk => (hm1.blk (k := k) hk).2)
  have HS1 := Lib.hid hb1.size
  clear hb1 hB1 hin1
  go_wp2_with fail
  refine name_calls ?_
  intro W2 hW2
  have kg2 : W2.heap[g]? = some (.cells #[.int .i64 s.ch, .int .i64 cy, .pointer (some ⟨kk, 0, none⟩), .pointer none, .pointer (some ⟨kp, 0, none⟩), .bool false] 72 (0, 0)) := by
    rw [hW2]; exact blk_set (blk_set (blk_set (blk_set (kg) 1 _) 2 _) 3 _) 5 _
  have ho2 : Only g w1 W2 := by
    rw [hW2]; exact Only.setCell (Only.setCell (Only.setCell (Only.setCell (Only.refl g w1) rfl _) rfl _) rfl _) rfl _
  have hkg1 : ¬ kk = g := by have := HW1.out; omega
  have hk1 := ho2.keep hkg1 hk1
  have k1 := ho2.keep (show ¬ w.heap.size + 1 = g by omega) k1
  have c0 := ho2.keep (fun e => hzg e.symm) c0
  have hmy1 := my_only ⟨hm1, hi1⟩ ho2 (by have := HW1.out; omega)
  have hin3 := hin2.only HG.out ho2
  have kkl : kk < W2.heap.size := blk_lt hk1
  have ho3 : Only g w W2 := (Only.of_below hB2).trans ho2
  have HS2 := Lib.hid ho2.size
  clear hW2 g0 g1 g2 g3 g4 g5 fg z0 z1 z2 z3 z4 z5 kg hin2 hB2 ho2
  refine (clone_is I s.ch cy a cap W2 hin3).mono ?_
  rintro e w3 ⟨k2, a2, c2, rfl, hk2, hk2l, hk2b, hm3, hi3, hb3⟩
  have k1 := blk_keep hb3 k1
  have kg2 := blk_keep hb3 kg2
  have hk1 := blk_keep hb3 hk1
  have hmy1 := my_below hb3 hmy1
  have ho4 := ho3.trans (Only.of_below hb3)
  have r0 := blk_cell hk2 0 _ rfl
  have r1 := blk_cell hk2 1 _ rfl
  have r2 := blk_cell hk2 2 _ rfl
  have r3 := blk_cell hk2 3 _ rfl
  have r4 := blk_cell hk2 4 _ rfl
  have r5 := blk_cell hk2 5 _ rfl
  have q0 := blk_cell k1 0 _ rfl
  have q1 := blk_cell k1 1 _ rfl
  have q2 := blk_cell k1 2 _ rfl
  have q3 := blk_cell k1 3 _ rfl
  have q4 := blk_cell k1 4 _ rfl
  have q5 := blk_cell k1 5 _ rfl
  have fq := blk_free k1
  have hs3 : w.heap.size + 1 < w3.heap.size := blk_lt k1
  have hne : ¬ w.heap.size + 1 = k2 := by have := HW1.out; have := HS1.out; have := HS2.out; omega
  have hne2 : ¬ k2 = w.heap.size + 1 := fun e => hne e.symm
  clear hin3 c0 HZ hzg
  have hb3s := Lib.hid (Nat.le_trans HS2.out hb3.size)
  have hHB : ∀ j, X j → W2.heap[j]? = w.heap[j]? := fun j hj => ho3.block j (HB.out j hj) (by rintro rfl; exact HXG.out hj)
  have HHB := Lib.hid (fun j (hj : X j) => (hb3.block j (by have := HB.out j hj; have := ho3.size; omega)).trans (hHB j hj))
  clear hb3 ho3 hHB
  go_wp2_with fail
  have hfin : Only (w.heap.size + 1) w3 ((((((w3.setCell ⟨w.heap.size + 1, 0, none⟩ (.int .i64 s.ch)).setCell ⟨w.heap.size + 1, 1, none⟩ (.int .i64 cy)).setCell ⟨w.heap.size + 1, 2, none⟩ (.int .u64 (I.o : Int))).setCell ⟨w.heap.size + 1, 3, none⟩ (.int .u32 (I.n : Int))).setCell ⟨w.heap.size + 1, 4, none⟩ (.int .u32 (I.r : Int))).setCell ⟨w.heap.size + 1, 5, none⟩ (.slice a2 I.c.length c2)) := only6 w3 _ _ _ _ _ _ _
  refine bodyPost_ret (v := .tuple #[.agg #[.int .i64 s.ch, .int .i64 cy, .int .u64 (I.o : Int), .int .u32 (I.n : Int), .int .u32 (I.r : Int), .slice a2 I.c.length c2], .int .i64 0]) (by simp [results, Try.results13, go_sem, q0, q1, q2, q3, q4, q5]) rfl ?_
  have n1 := HW1.out
  have n2 := HS1.out
  have n3 := HS2.out
  have hmy1 := my_only hmy1 hfin (by omega)
  have hmy3 := my_only ⟨hm3, hi3⟩ hfin (by omega)
  have hg3 := hfin.keep (show ¬ g = w.heap.size + 1 by omega) kg2
  have hk3 := hfin.keep (show ¬ kk = w.heap.size + 1 by omega) hk1
  have hk3s := blk_lt kg2
  have hsz : w1.heap.size ≤ w3.heap.size := by have := hb3s.out; omega
  refine ⟨Plus X W1.heap.size w1.heap.size, w1.heap.size, a2, c2, rfl, ?_, Plus.gr (by omega) (Nat.le_refl _), by omega, hmy3.1.mono n3, hmy3.2, ho4.after hfin (by omega)⟩
  refine HS.out.begun I cy (by have := HC.out; omega) hk3 hmy1.2 ⟨hkl, kks⟩ (by omega) ?_ ?_ ?_ hg3 HPT.out HPK.out
  · rcases hmy1.1.form with h | ⟨b, cur, h, hB1, hB2⟩
    · exact .inl h
    · exact .inr ⟨b, h, .inr ⟨hB1, HBL.out b ⟨_, h, rfl⟩⟩⟩
  · exact Nat.le_trans hsz hfin.size
  · intro j hj
    have := HB.out j hj
    exact (hfin.block j (by omega) (by omega)).trans (HHB.out j hj)
end Go.Proofs.Ytbbacmlcimgjbaa
