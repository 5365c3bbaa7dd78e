/-
  The walk of the statement AgreePlays of chapter 20: whatever is called.
-/
import Derived.Test.YtbbacmlcimgjbaaAgRAny
import Derived.Test.YtbbacmlcimgjbaaAgWorks
import Derived.Test.YtbbacmlcimgjbaaAgRead
import Derived.Deep.CutRange
import Derived.Deep.RegionHeld3
namespace Go.Proofs.Ytbbacmlcimgjbaa
open Go.RowKit
attribute [local irreducible] shortB fewB In.ok InAt MyIn LongAt In.same both cmdCells SideAt OptAt RdAt RSideAt CellsAt In.merge Side.begin Side.hear Side.bCh Side.bCy Side.bIn Side.bCode Side.mIn Side.mOk CalsAt

theorem begin_ch (s : Side) (cy : Int) (I : In) : (s.begin cy I).ch = s.ch := by unfold Side.begin; split <;> rfl
theorem hear_ch (s : Side) (ch cy : Int) (I : In) : (s.hear ch cy I).1.ch = s.ch := by
  unfold Side.hear
  split
  · rfl
  split
  · rfl
  split
  · split
    · rfl
    · split
      · rfl
      · split <;> rfl
  · split
    · rfl
    · split <;> rfl
theorem CalsAt.at {w : World} {a : Option Addr} {l : List Cal} {k : Nat} {c : Cal} (h : CalsAt w a l) (hc : l[k]? = some c) : LongAt w c.a c.cap c.I ∧ ∃ b off, a = some ⟨b, off, none⟩ ∧
  w.cell? ⟨b, off + k * 7, none⟩ = some (.int .i64 c.k) ∧ w.cell? ⟨b, off + k * 7 + 1, none⟩ = some (.int .i64 c.ch) ∧ w.cell? ⟨b, off + k * 7 + 2, none⟩ = some (.int .i64 c.cy) ∧
  w.cell? ⟨b, off + k * 7 + 3, none⟩ = some (.int .u64 (c.I.o : Int)) ∧ w.cell? ⟨b, off + k * 7 + 4, none⟩ = some (.int .u32 (c.I.n : Int)) ∧ w.cell? ⟨b, off + k * 7 + 5, none⟩ = some (.int .u32 (c.I.r : Int)) ∧
  w.cell? ⟨b, off + k * 7 + 6, none⟩ = some (.slice c.a c.I.c.length c.cap) := by
  unfold CalsAt at h
  refine ⟨h.1 c (List.mem_of_getElem? hc), ?_⟩
  obtain ⟨b, off, rfl, hcell⟩ := h.2.resolve_left (by rintro rfl; simp at hc)
  exact ⟨b, off, rfl, hcell k c hc⟩
theorem inAt_blk {w : World} {a : Option Addr} {cap : Nat} {I : In} (h : InAt w a cap I) (hc : I.c ≠ []) {k : Nat} (hk : Blk a k) : k < w.heap.size := by
  obtain ⟨y, h1, h2⟩ := hk
  rcases h.cmds.2 with h0 | ⟨b, off, e, hcell⟩
  · exact absurd h0 hc
  · rw [e] at h1
    cases h1
    subst h2
    cases hl : I.c with
    | nil => exact absurd hl hc
    | cons q l => exact World.block_lt_of_cell? _ ⟨b, _, none⟩ (hcell 0 q (by rw [hl]; rfl)).1
theorem pset6 {w : World} {g : Nat} {a0 a1 a2 a3 a4 a5 : Value} {t : TypeId} {fr : Nat × Nat} (h0 : w.heap[g]? = some (.cells #[a0, a1, a2, a3, a4, a5] t fr)) (u0 u1 u2 u3 u4 u5 : Value) :
    ((((((w.setCell ⟨g, 0, none⟩ u0).setCell ⟨g, 1, none⟩ u1).setCell ⟨g, 2, none⟩ u2).setCell ⟨g, 3, none⟩ u3).setCell ⟨g, 4, none⟩ u4).setCell ⟨g, 5, none⟩ u5).heap[g]? = some (.cells #[u0, u1, u2, u3, u4, u5] t fr) ∧ Only g w ((((((w.setCell ⟨g, 0, none⟩ u0).setCell ⟨g, 1, none⟩ u1).setCell ⟨g, 2, none⟩ u2).setCell ⟨g, 3, none⟩ u3).setCell ⟨g, 4, none⟩ u4).setCell ⟨g, 5, none⟩ u5) := by
  have o0 : Only g w w := Only.refl g w
  have h1 : (w.setCell ⟨g, 0, none⟩ u0).heap[g]? = some (.cells #[u0, a1, a2, a3, a4, a5] t fr) := blk_set h0 0 u0
  have o1 := o0.setCell (p := ⟨g, 0, none⟩) rfl u0
  generalize w.setCell ⟨g, 0, none⟩ u0 = w1 at h1 o1 ⊢
  have h2 : (w1.setCell ⟨g, 1, none⟩ u1).heap[g]? = some (.cells #[u0, u1, a2, a3, a4, a5] t fr) := blk_set h1 1 u1
  have o2 := o1.setCell (p := ⟨g, 1, none⟩) rfl u1
  generalize w1.setCell ⟨g, 1, none⟩ u1 = w2 at h2 o2 ⊢
  have h3 : (w2.setCell ⟨g, 2, none⟩ u2).heap[g]? = some (.cells #[u0, u1, u2, a3, a4, a5] t fr) := blk_set h2 2 u2
  have o3 := o2.setCell (p := ⟨g, 2, none⟩) rfl u2
  generalize w2.setCell ⟨g, 2, none⟩ u2 = w3 at h3 o3 ⊢
  have h4 : (w3.setCell ⟨g, 3, none⟩ u3).heap[g]? = some (.cells #[u0, u1, u2, u3, a4, a5] t fr) := blk_set h3 3 u3
  have o4 := o3.setCell (p := ⟨g, 3, none⟩) rfl u3
  generalize w3.setCell ⟨g, 3, none⟩ u3 = w4 at h4 o4 ⊢
  have h5 : (w4.setCell ⟨g, 4, none⟩ u4).heap[g]? = some (.cells #[u0, u1, u2, u3, u4, a5] t fr) := blk_set h4 4 u4
  have o5 := o4.setCell (p := ⟨g, 4, none⟩) rfl u4
  generalize w4.setCell ⟨g, 4, none⟩ u4 = w5 at h5 o5 ⊢
  have h6 : (w5.setCell ⟨g, 5, none⟩ u5).heap[g]? = some (.cells #[u0, u1, u2, u3, u4, u5] t fr) := blk_set h5 5 u5
  have o6 := o5.setCell (p := ⟨g, 5, none⟩) rfl u5
  generalize w5.setCell ⟨g, 5, none⟩ u5 = w6 at h6 o6 ⊢
  exact ⟨h6, o6⟩
/-- both sides, as they lie in memory: blocks g, h; what each stands on -/
structure Pair (w : World) (g h : Nat) (X Y : Nat → Prop) (s : Side) : Prop where
  a : SideAt w X g s
  r : RSideAt w Y h s
  xh : ¬ X h
  yg : ¬ Y g
  gh : ¬ g = h
theorem Pair.below {w w' : World} {g h : Nat} {X Y : Nat → Prop} {s : Side} (p : Pair w g h X Y s) (hb : Below w.heap.size w w') : Pair w' g h X Y s := ⟨p.a.below hb, p.r.below hb, p.xh, p.yg, p.gh⟩
theorem Pair.bar {w w' : World} {g h : Nat} {X Y Z : Nat → Prop} {s : Side} (p : Pair w g h X Y s) (hb : Bar Z w w') (hg : ¬ Z g) (hh : ¬ Z h) (hx : ∀ k, X k → ¬ Z k) (hy : ∀ k, Y k → ¬ Z k) : Pair w' g h X Y s :=
  ⟨p.a.bar hb hg hx, p.r.bar hb hh hy, p.xh, p.yg, p.gh⟩

theorem my_bar {w w' : World} {B : Nat} {Z : Nat → Prop} {a : Option Addr} {cap : Nat} {I : In} (m : MyIn w B a ∧ InAt w a cap I) (hb : Bar Z w w') (h : ∀ k, Blk a k → ¬ Z k) : MyIn w' B a ∧ InAt w' a cap I := by
  have hk : ∀ k, Blk a k → w'.heap[k]? = w.heap[k]? := fun k hk => hb.block k (m.1.blk hk).2 (h k hk)
  exact ⟨m.1.keep hk, m.2.keepMy m.1 hk⟩
theorem Bar.keep {w w' : World} {Z : Nat → Prop} {k : Nat} {o : Obj} (hb : Bar Z w w') (h : ¬ Z k) (hk : w.heap[k]? = some o) : w'.heap[k]? = some o := (hb.block k (blk_lt hk) h).trans hk
theorem pboxA {W w6 : World} {h S M cC : Nat} {Y YB : Nat → Prop} {aC : Option Addr} {s : Side} {J : In} {c' y' r : Int} {a0 a1 a2 a3 a4 a5 : Value} (kz6 : w6.heap[W.heap.size]? = some (.cells #[a0, a1, a2, a3, a4, a5] 43 (0, 0)))
    (hR6 : RSideAt w6 YB h s) (hyb : ∀ j, Y j → j < W.heap.size) (hlt : h < W.heap.size) (hS : W.heap.size < S) (hgr : Gr Y YB S M) (hiC : MyIn w6 S aC ∧ InAt w6 aC cC J) (ho6 : Only h W w6) :
    ∃ (zc : Nat) (YB' : Nat → Prop) (M' : Nat) (aD : Option Addr) (cD : Nat), Value.pointer (some ⟨W.heap.size, 0, none⟩) = .pointer (some ⟨zc, 0, none⟩) ∧ Value.int .i64 r = .int .i64 r ∧
      ((((((w6.setCell ⟨W.heap.size, 0, none⟩ (.int .i64 c')).setCell ⟨W.heap.size, 1, none⟩ (.int .i64 y')).setCell ⟨W.heap.size, 2, none⟩ (.int .u64 (J.o : Int))).setCell ⟨W.heap.size, 3, none⟩ (.int .u32 (J.n : Int))).setCell ⟨W.heap.size, 4, none⟩ (.int .u32 (J.r : Int))).setCell ⟨W.heap.size, 5, none⟩ (.slice aC J.c.length cC)).heap[zc]? = some (.cells #[.int .i64 c', .int .i64 y', .int .u64 (J.o : Int), .int .u32 (J.n : Int), .int .u32 (J.r : Int), .slice aD J.c.length cD] 43 (0, 0)) ∧
      RSideAt ((((((w6.setCell ⟨W.heap.size, 0, none⟩ (.int .i64 c')).setCell ⟨W.heap.size, 1, none⟩ (.int .i64 y')).setCell ⟨W.heap.size, 2, none⟩ (.int .u64 (J.o : Int))).setCell ⟨W.heap.size, 3, none⟩ (.int .u32 (J.n : Int))).setCell ⟨W.heap.size, 4, none⟩ (.int .u32 (J.r : Int))).setCell ⟨W.heap.size, 5, none⟩ (.slice aC J.c.length cC)) YB' h s ∧ Gr Y YB' W.heap.size M' ∧ InAt ((((((w6.setCell ⟨W.heap.size, 0, none⟩ (.int .i64 c')).setCell ⟨W.heap.size, 1, none⟩ (.int .i64 y')).setCell ⟨W.heap.size, 2, none⟩ (.int .u64 (J.o : Int))).setCell ⟨W.heap.size, 3, none⟩ (.int .u32 (J.n : Int))).setCell ⟨W.heap.size, 4, none⟩ (.int .u32 (J.r : Int))).setCell ⟨W.heap.size, 5, none⟩ (.slice aC J.c.length cC)) aD cD J ∧ Only h W ((((((w6.setCell ⟨W.heap.size, 0, none⟩ (.int .i64 c')).setCell ⟨W.heap.size, 1, none⟩ (.int .i64 y')).setCell ⟨W.heap.size, 2, none⟩ (.int .u64 (J.o : Int))).setCell ⟨W.heap.size, 3, none⟩ (.int .u32 (J.n : Int))).setCell ⟨W.heap.size, 4, none⟩ (.int .u32 (J.r : Int))).setCell ⟨W.heap.size, 5, none⟩ (.slice aC J.c.length cC)) := by
  obtain ⟨kf, hof⟩ := pset6 kz6 (.int .i64 c') (.int .i64 y') (.int .u64 (J.o : Int)) (.int .u32 (J.n : Int)) (.int .u32 (J.r : Int)) (.slice aC J.c.length cC)
  refine ⟨W.heap.size, YB, M, aC, cC, rfl, rfl, kf, hR6.only hof (by omega) ?_, fun j hj => (hgr j hj).imp id (fun ⟨p, q⟩ => ⟨by omega, q⟩), (my_only hiC hof hS).2, ho6.after hof (Nat.le_refl _)⟩
  intro hy
  rcases hgr _ hy with h1 | ⟨h1, _⟩
  · have := hyb _ h1; omega
  · omega
theorem pboxB {W w6 : World} {h S M cC : Nat} {Y YB : Nat → Prop} {aC : Option Addr} {s : Side} {J : In} {c' y' r : Int}
    (hR6 : RSideAt w6 YB h s) (hS : W.heap.size ≤ S) (hgr : Gr Y YB S M) (hiC : MyIn w6 S aC ∧ InAt w6 aC cC J) (ho6 : Only h W w6) :
    ∃ (zc : Nat) (YB' : Nat → Prop) (M' : Nat) (aD : Option Addr) (cD : Nat), Value.pointer (some ⟨w6.heap.size, 0, none⟩) = .pointer (some ⟨zc, 0, none⟩) ∧ Value.int .i64 r = .int .i64 r ∧
      (w6.alloc (Obj.cells #[.int .i64 c', .int .i64 y', .int .u64 (J.o : Int), .int .u32 (J.n : Int), .int .u32 (J.r : Int), .slice aC J.c.length cC] 43)).heap[zc]? = some (.cells #[.int .i64 c', .int .i64 y', .int .u64 (J.o : Int), .int .u32 (J.n : Int), .int .u32 (J.r : Int), .slice aD J.c.length cD] 43 (0, 0)) ∧
      RSideAt (w6.alloc (Obj.cells #[.int .i64 c', .int .i64 y', .int .u64 (J.o : Int), .int .u32 (J.n : Int), .int .u32 (J.r : Int), .slice aC J.c.length cC] 43)) YB' h s ∧ Gr Y YB' W.heap.size M' ∧ InAt (w6.alloc (Obj.cells #[.int .i64 c', .int .i64 y', .int .u64 (J.o : Int), .int .u32 (J.n : Int), .int .u32 (J.r : Int), .slice aC J.c.length cC] 43)) aD cD J ∧ Only h W (w6.alloc (Obj.cells #[.int .i64 c', .int .i64 y', .int .u64 (J.o : Int), .int .u32 (J.n : Int), .int .u32 (J.r : Int), .slice aC J.c.length cC] 43)) :=
  ⟨w6.heap.size, YB, M, aC, cC, rfl, rfl, heap_new1 _ _, hR6.below (below1 _ _), fun j hj => (hgr j hj).imp id (fun ⟨p, q⟩ => ⟨Nat.le_trans hS p, q⟩), hiC.2.below (below1 _ _), ho6.trans (Only.of_below (below1 _ _))⟩

theorem rbegin_from (W : World) (s : Side) (X : Nat → Prop) (g : Nat) (cy : Int) (I : In) (a : Option Addr) (cap : Nat) (w : World) (h : RSideAt W X g s) (hin : InAt W a cap I) (hag : I.c ≠ [] → ¬ Blk a g) (hb : Below W.heap.size W w) :
    Calls Try.prog 14 #[.pointer (some ⟨g, 0, none⟩), .int .i64 cy, .agg #[.int .u64 (I.o : Int), .int .u32 (I.n : Int), .int .u32 (I.r : Int), .slice a I.c.length cap]] w
      fun e w' => ∃ X' M a' cap', e = .returned (.tuple #[.agg #[.int .i64 (s.bCh cy), .int .i64 (s.bCy cy), .int .u64 ((s.bIn cy I).o : Int), .int .u32 ((s.bIn cy I).n : Int), .int .u32 ((s.bIn cy I).r : Int), .slice a' (s.bIn cy I).c.length cap'], .int .i64 (s.bCode cy)]) ∧
        RSideAt w' X' g (s.begin cy I) ∧ Gr X X' w.heap.size M ∧ (MyIn w' w.heap.size a' ∧ InAt w' a' cap' (s.bIn cy I)) ∧ Only g W w' ∧ Only g w w' := by
  refine (rbegin_any s X g cy I a cap w (h.below hb) (hin.below hb) hag).mono ?_
  rintro e w' ⟨X', M, a', cap', h1, h2, h3, h4, h5, h6, h7⟩
  exact ⟨X', M, a', cap', h1, h2, h3, ⟨h5.mono h4, h6⟩, (Only.of_below hb).trans h7, h7⟩

set_option maxRecDepth 100000 in
set_option maxHeartbeats 8000000 in
theorem plays_any (c : Int) (a : Option Addr) (n cap : Nat) (l : List Cal) (w : World) (hn : l.length = n) (hm : n ≤ maxLen) (hl : CalsAt w a l) :
    Calls Try.prog 3 #[.int .i64 c, .slice a n cap] w fun e w' => e = .returned (.bool true) ∧ Below w.heap.size w w' := by
  cases hf : fewB l with
  | false =>
    go_enter Try.func3, Try.ntmps3
    go_wp2_with fail
    refine (few_is l a n cap w hn hm hl).mono ?_
    rintro e w1 ⟨rfl, hb1⟩
    rw [hf]
    go_wp2_with fail
    refine (works_any _).mono ?_
    rintro e w2 ⟨rfl, hb2⟩
    go_wp2_with fail
    go_ret
    exact ⟨rfl, below_on hb1 hb2⟩
  | true =>
    have HF := Lib.hid hf
    have HN := Lib.hid hn
    have hlen : ∀ x ∈ l, x.I.c.length ≤ 20 := by
      intro x hx
      have := hf
      unfold fewB at this
      exact shortB_get (by revert this; cases shortB l <;> simp) hx
    have hn60 : n ≤ 60 := by
      have := hf
      unfold fewB at this
      rw [hn] at this
      by_cases h : n ≤ 60
      · exact h
      · rw [decide_eq_false h] at this; cases this
    have HLEN := Lib.hid hlen
    clear hf hlen
    by_cases hc : c = 0 ∨ c = 1
    · have hcc := hc
      have HC1 : Hid ((c != 0) = true → (c != 1) = false) := Lib.hid (by rcases hc with rfl | rfl <;> simp)
      have HSC : Hid ((Side.new c).ch = 0 ∨ (Side.new c).ch = 1) := Lib.hid hc
      clear hc hcc
      go_enter Try.func3, Try.ntmps3
      go_wp2_with fail
      refine (few_is l a n cap w HN.out hm hl).mono ?_
      rintro e w1 ⟨rfl, hb1⟩
      rw [HF.out]
      go_wp2_with fail
      refine (new_is c w1 HSC.out).mono ?_
      rintro e w2 ⟨rfl, hA, hb2⟩
      have hb := below_on hb1 hb2
      obtain ⟨g, hg⟩ : ∃ g, g = w1.heap.size := ⟨_, rfl⟩
      rw [← hg] at hA ⊢
      have hgw : w.heap.size ≤ g := by rw [hg]; exact hb1.size
      have hgl := hA.lt
      have hl2 := hl.below hb
      clear hg hb1 hb2
      go_upto_region 4 with fail
      go_cut [28] from 17 (fun s28 wx => s28 = .bool false ∧ wx = w2)
      case first =>
        cases h0 : (c != 0) with
        | false =>
          go_wp2_with fail
          go_meet
          exact ⟨rfl, rfl⟩
        | true =>
          have h1 := HC1.out h0
          go_wp2_with fail
          go_meet
          exact ⟨rfl, rfl⟩
      case rest =>
      obtain ⟨rfl, rfl⟩ := hcut
      go_wp2_with fail
      refine (rnew_is c _).mono ?_
      rintro e w3 ⟨rfl, hR, hb3⟩
      obtain ⟨h, hh⟩ : ∃ h, h = wc.heap.size := ⟨_, rfl⟩
      rw [← hh] at hR ⊢
      have hP : Pair w3 g h (fun _ => False) (fun _ => False) (Side.new c) := ⟨hA.below hb3, hR, id, id, by omega⟩
      have hhw : w.heap.size ≤ h := by rw [hh]; exact hb.size
      have hb := below_on hb hb3
      clear hh hA hR hb3 hl2 hgl
      have HL := Lib.hid hl
      have HNM := Lib.hid hm
      clear hl hm
      go_wp2_with fail
      go_loopg [7] n (fun m i wr => ∃ (k : Nat) (X Y : Nat → Prop) (s : Side), k + m = n ∧ i = .int .i64 (k : Nat) ∧ s.ch = c ∧ Pair wr g h X Y s ∧ Below w.heap.size w wr)
      case atStart => exact ⟨0, _, _, _, by omega, rfl, rfl, hP, hb⟩
      case round =>
        obtain ⟨k, X, Y, s, hk, rfl, hsc, hP, hB⟩ := hrel
        by_cases hkn : k < n
        · obtain ⟨x, hx⟩ : ∃ x, l[k]? = some x := ⟨_, List.getElem?_eq_getElem (by rw [HN.out]; exact hkn)⟩
          have hsh := HLEN.out x (List.mem_of_getElem? hx)
          obtain ⟨hlong, b, off, rfl, _⟩ := HL.out.at hx
          have hin0 := hlong.short hsh
          have hblk : x.I.c ≠ [] → ∀ k, Blk x.a k → k < w.heap.size := fun hc k hk => inAt_blk hin0 hc hk
          have HROW : Hid (∀ w', Below w.heap.size w w' → InAt w' x.a x.cap x.I ∧ w'.cell? ⟨b, off + k * 7, none⟩ = some (.int .i64 x.k) ∧ w'.cell? ⟨b, off + k * 7 + 1, none⟩ = some (.int .i64 x.ch) ∧ w'.cell? ⟨b, off + k * 7 + 2, none⟩ = some (.int .i64 x.cy) ∧
              w'.cell? ⟨b, off + k * 7 + 3, none⟩ = some (.int .u64 (x.I.o : Int)) ∧ w'.cell? ⟨b, off + k * 7 + 4, none⟩ = some (.int .u32 (x.I.n : Int)) ∧ w'.cell? ⟨b, off + k * 7 + 5, none⟩ = some (.int .u32 (x.I.r : Int)) ∧
              w'.cell? ⟨b, off + k * 7 + 6, none⟩ = some (.slice x.a x.I.c.length x.cap)) := Lib.hid (fun w' hw' => by
            obtain ⟨hlong, b', off', e, h⟩ := (HL.out.below hw').at hx
            cases e
            exact ⟨hlong.short hsh, h⟩)
          have HBLK := Lib.hid hblk
          have HSH := Lib.hid hsh
          obtain ⟨hinr, c0, c1, c2, c3, c4, c5, c6⟩ := HROW.out wr hB
          have d1 : (k : Int) < n := by omega
          clear hx hlong hin0 hblk hsh
          go_wp2_with fail
          refine (own_is x.I x.ch x.cy x.a x.cap wr hinr).mono ?_
          rintro e w1 ⟨aO, cO, rfl, hmO, hiO, hb1⟩
          have hP1 := hP.below hb1
          have hB1 := hB.trans (hb1.mono hB.size)
          have HBO : Hid (∀ k, Blk aO k → wr.heap.size ≤ k ∧ k < w1.heap.size) := Lib.hid (fun k hk => hmO.blk hk)
          have hXb : ∀ j, X j → j < wr.heap.size := hP.a.bound
          have hYb : ∀ j, Y j → j < wr.heap.size := hP.r.bound
          have hgr : g < wr.heap.size := hP.a.lt
          have hhr : h < wr.heap.size := hP.r.lt
          have HXB := Lib.hid hXb
          have HYB := Lib.hid hYb
          have HGR := Lib.hid hgr
          have HHR := Lib.hid hhr
          have HW1 := Lib.hid hb1.size
          clear hXb hYb hgr hhr hb1 hP c0 c1 c2 c3 c4 c5 c6 hinr
          obtain ⟨_, c0, c1, c2, c3, c4, c5, c6⟩ := HROW.out w1 hB1
          have hbw : b < w1.heap.size := World.block_lt_of_cell? _ ⟨b, off + k * 7, none⟩ c0
          go_wp2_with fail
          refine name_calls ?_
          intro W2 hW2
          have kx : W2.heap[w1.heap.size]? = some (.cells #[.int .i64 x.ch, .int .i64 x.cy, .int .u64 (x.I.o : Int), .int .u32 (x.I.n : Int), .int .u32 (x.I.r : Int), .slice aO x.I.c.length cO] 35 (0, 0)) := by rw [hW2]; exact heap_new1 _ _
          have hb2 : Below w1.heap.size w1 W2 := by rw [hW2]; exact below1 _ _
          have hW2s : W2.heap.size = w1.heap.size + 1 := by rw [hW2]; exact Array.size_push ..
          obtain ⟨zx, hzx⟩ : ∃ zx, zx = w1.heap.size := ⟨_, rfl⟩
          rw [← hzx] at kx ⊢
          have hP2 := hP1.below hb2
          have hB2 := hB1.trans (hb2.mono hB1.size)
          have hmy := my_below hb2 ⟨hmO, hiO⟩
          have HZX : Hid (w1.heap.size ≤ zx ∧ zx < W2.heap.size) := Lib.hid ⟨by omega, by omega⟩
          clear hW2 hW2s hzx hb2 hmO hiO hP1 hB1 c0 c1 c2 c3 c4 c5 c6 hbw
          refine (pick_any x.k 3 W2 (by omega) (by omega)).mono ?_
          rintro e w3 ⟨rfl, rfl⟩
          go_upto_if 56 with fail
          go_cut [] from 38 to 139 (fun wx => ∃ (X' Y' : Nat → Prop) (s' : Side), s'.ch = c ∧ Pair wx g h X' Y' s' ∧ (∀ j, X' j → ¬ Blk aO j) ∧ (∀ j, Y' j → ¬ Blk aO j) ∧
            wx.heap[zx]? = some (.cells #[.int .i64 x.ch, .int .i64 x.cy, .int .u64 (x.I.o : Int), .int .u32 (x.I.n : Int), .int .u32 (x.I.r : Int), .slice aO x.I.c.length cO] 35 (0, 0)) ∧ (MyIn wx wr.heap.size aO ∧ InAt wx aO cO x.I) ∧ Below w.heap.size w wx ∧ W2.heap.size ≤ wx.heap.size)
          case first =>
            have x0 := blk_cell kx 0 _ rfl
            have x1 := blk_cell kx 1 _ rfl
            have x2 := blk_cell kx 2 _ rfl
            have x3 := blk_cell kx 3 _ rfl
            have x4 := blk_cell kx 4 _ rfl
            have x5 := blk_cell kx 5 _ rfl
            have hgO : ¬ Blk aO g := fun hk => by have := HBO.out _ hk; have := HGR.out; omega
            have hhO : ¬ Blk aO h := fun hk => by have := HBO.out _ hk; have := HHR.out; omega
            have hgx : ¬ zx = g := by have := HZX.out; have := HGR.out; have := HW1.out; omega
            have hhx : ¬ zx = h := by have := HZX.out; have := HHR.out; have := HW1.out; omega
            have hhg : ¬ h = g := fun e => hP2.gh e.symm
            have hch : s.ch = 0 ∨ s.ch = 1 := by rw [hsc]; exact HSC.out
            cases hd : (x.k % 3 == 0) with
            | true =>
              go_wp2_with fail
              refine (begin_any s X g x.cy x.I aO cO W2 hP2.a hmy.2 (fun _ => hgO)).mono ?_
              rintro e w4 ⟨XA, M, aB, cB, rfl, hA4, hgr, hM, hmB, hiB, ho4⟩
              have hR4 := hP2.r.only ho4 hhg hP2.yg
              have hmy4 := my_only hmy ho4 HGR.out
              have kx4 := ho4.keep hgx kx
              have hB4 := Only.below hB2 hgw hB2.size ho4
              have HGRX := Lib.hid hgr
              have HM := Lib.hid hM
              have HS4 := Lib.hid ho4.size
              clear ho4 hgr hM x0 x1 x2 x3 x4 x5
              go_upto_region 15 with fail
              refine name_world ?_
              intro W5 hW5
              have kb : W5.heap[w4.heap.size]? = some (.cells #[.int .i64 (s.bCh x.cy), .int .i64 (s.bCy x.cy), .int .u64 ((s.bIn x.cy x.I).o : Int), .int .u32 ((s.bIn x.cy x.I).n : Int), .int .u32 ((s.bIn x.cy x.I).r : Int), .slice aB (s.bIn x.cy x.I).c.length cB] 35 (0, 0)) := by rw [hW5]; exact heap_new1 _ _
              have hb5 : Below w4.heap.size w4 W5 := by rw [hW5]; exact below1 _ _
              obtain ⟨zb, hzb⟩ : ∃ zb, zb = w4.heap.size := ⟨_, rfl⟩
              rw [← hzb] at kb ⊢
              have hA5 := hA4.below hb5
              have hR5 := hR4.below hb5
              have hmy5 := my_below hb5 hmy4
              have hmB5 := my_below hb5 ⟨hmB, hiB⟩
              have kx5 := blk_keep hb5 kx4
              have hB5 := hB4.trans (hb5.mono hB4.size)
              have HS5 : Hid (w4.heap.size ≤ W5.heap.size) := Lib.hid hb5.size
              have hzbg : ¬ zb = h := by have := hR4.lt; omega
              clear hb5 hW5 hzb hA4 hR4 hmy4 hmB hiB kx4 hB4
              go_cut [11, 12] from 66 to 82 (fun s11 s12 wx => ∃ (zc : Nat) (YB : Nat → Prop) (M6 : Nat) (aC : Option Addr) (cC : Nat), s11 = .pointer (some ⟨zc, 0, none⟩) ∧ s12 = .int .i64 (s.bCode x.cy) ∧
                wx.heap[zc]? = some (.cells #[.int .i64 (s.bCh x.cy), .int .i64 (s.bCy x.cy), .int .u64 ((s.bIn x.cy x.I).o : Int), .int .u32 ((s.bIn x.cy x.I).n : Int), .int .u32 ((s.bIn x.cy x.I).r : Int), .slice aC (s.bIn x.cy x.I).c.length cC] 43 (0, 0)) ∧
                RSideAt wx YB h (s.begin x.cy x.I) ∧ Gr Y YB W5.heap.size M6 ∧ InAt wx aC cC (s.bIn x.cy x.I) ∧ Only h W5 wx)
              case first =>
                obtain ⟨hinr, c0, c1, c2, c3, c4, c5, c6⟩ := HROW.out W5 hB5
                have hbw : b < W5.heap.size := World.block_lt_of_cell? _ ⟨b, off + k * 7, none⟩ c0
                have hB5d := hB5.drew
                clear c0 c1 c2 c3 c4 c5 c6
                obtain ⟨_, c0, c1, c2, c3, c4, c5, c6⟩ := HROW.out W5.drew hB5d
                obtain ⟨_, t0, t1, t2, t3, t4, t5, t6⟩ := HROW.out (W5.alloc (Obj.cells #[.int .i64 0, .int .i64 0, .int .u64 0, .int .u32 0, .int .u32 0, .slice none 0 0] 43)).drew (hB5.trans (((below1 W5 _).drew).mono hB5.size))
                have kz : (W5.alloc (Obj.cells #[.int .i64 0, .int .i64 0, .int .u64 0, .int .u32 0, .int .u32 0, .slice none 0 0] 43)).drew.heap[W5.heap.size]? = some (Obj.cells #[.int .i64 0, .int .i64 0, .int .u64 0, .int .u32 0, .int .u32 0, .slice none 0 0] 43) := heap_new1 _ _
                have hzn : ¬ W5.heap.size = h := by have := hR5.lt; omega
                have hYB5 := hR5.bound
                have hlt5 := hR5.lt
                have hsz := blk_lt kz
                go_region_with ((go_at_call 14; refine (rbegin_from W5 s Y h x.cy x.I x.a x.cap _ hR5 hinr (fun hc hk => by have := HBLK.out hc _ hk; omega) (by first | exact (Below.refl _ _).drew | exact (below1 _ _).drew)).mono ?_; rintro e w6 ⟨YB, M6, aC, cC, rfl, hR6, hgr6, hiC, ho6, hoo6⟩; try (have kz6 := hoo6.keep hzn kz; have z0 := blk_cell kz6 0 _ rfl; have z1 := blk_cell kz6 1 _ rfl; have z2 := blk_cell kz6 2 _ rfl; have z3 := blk_cell kz6 3 _ rfl; have z4 := blk_cell kz6 4 _ rfl; have z5 := blk_cell kz6 5 _ rfl; have fz := blk_free kz6)))
                all_goals go_wp2_with fail
                all_goals go_meet
                all_goals first
                  | exact pboxA (W := W5) (w6 := w6) kz6 hR6 hYB5 hlt5 hsz hgr6 hiC ho6
                  | exact pboxB (W := W5) (w6 := w6) hR6 (Nat.le_refl _) hgr6 hiC ho6
              case rest =>
              obtain ⟨zc, YB, M6, aC, cC, rfl, rfl, kc, hR6, hgrY, hiC, ho6⟩ := hcut
              have hgh := hP2.gh
              have hAy : ∀ j, XA j → X j ∨ W2.heap.size ≤ j := fun j hj => (HGRX.out j hj).imp id (fun h => h.1)
              have hYy : ∀ j, YB j → Y j ∨ W5.heap.size ≤ j := fun j hj => (hgrY j hj).imp id (fun h => h.1)
              have n1 := HS4.out
              have n2 := HS5.out
              have n3 := HZX.out
              have n4 := HW1.out
              have n5 := HM.out
              have n6 := HGR.out
              have n7 := HHR.out
              have nXh : ¬ XA h := fun hj => (hAy h hj).elim hP2.xh (fun h1 => by omega)
              have nYg : ¬ YB g := fun hj => (hYy g hj).elim hP2.yg (fun h1 => by omega)
              have hA6 := hA5.only ho6 hgh nXh
              have hP6 : Pair wc g h XA YB (s.begin x.cy x.I) := ⟨hA6, hR6, nXh, nYg, hgh⟩
              have hmy6 := my_only hmy5 ho6 HHR.out
              have hmB6 := my_only hmB5 ho6 (show h < M by omega)
              have kb6 := ho6.keep hzbg kb
              have kx6 := ho6.keep hhx kx5
              have hB6 := Only.below hB5 hhw hB5.size ho6
              have hs6 := ho6.size
              have HBB : Hid (∀ k, Blk aB k → M ≤ k ∧ k < W5.heap.size) := Lib.hid (fun k hk => hmB5.1.blk hk)
              have HYY := Lib.hid hYy
              have HMM : Hid (W2.heap.size ≤ M ∧ W5.heap.size ≤ wc.heap.size ∧ W2.heap.size ≤ wc.heap.size) := Lib.hid ⟨n5, hs6, by omega⟩
              have b0 := blk_cell kb6 0 _ rfl
              have b1 := blk_cell kb6 1 _ rfl
              have b2 := blk_cell kb6 2 _ rfl
              have b3 := blk_cell kb6 3 _ rfl
              have b4 := blk_cell kb6 4 _ rfl
              have b5 := blk_cell kb6 5 _ rfl
              have q0 := blk_cell kc 0 _ rfl
              have q1 := blk_cell kc 1 _ rfl
              have q2 := blk_cell kc 2 _ rfl
              have q3 := blk_cell kc 3 _ rfl
              have q4 := blk_cell kc 4 _ rfl
              have q5 := blk_cell kc 5 _ rfl
              have v1 : (s.bCode x.cy != s.bCode x.cy) = false := by simp
              clear hAy hYy n1 n2 n3 n4 n5 n6 n7 hA5 hR5 hmy5 hmB5 kb kx5 hB5 ho6 hs6 hA6 hR6 hgrY nXh nYg kc hP2 hB2 hmy kx hch
              go_wp2_with fail
              refine (rdsame_is (s.bIn x.cy x.I) (s.bIn x.cy x.I) (s.bCh x.cy) (s.bCy x.cy) (s.bCh x.cy) (s.bCy x.cy) aB aC cB cC wc hmB6.2 hiC).mono ?_
              rintro e w7 ⟨rfl, hb7⟩
              rw [show (s.bCh x.cy == s.bCh x.cy && s.bCy x.cy == s.bCy x.cy && (s.bIn x.cy x.I).same (s.bIn x.cy x.I)) = true by rw [In.same_refl]; simp]
              have hP7 := hP6.below hb7
              have hmy7 := my_below hb7 hmy6
              have hmB7 := my_below hb7 hmB6
              have kb7 := blk_keep hb7 kb6
              have kx7 := blk_keep hb7 kx6
              have hB7 := hB6.trans (hb7.mono hB6.size)
              have b0 := blk_cell kb7 0 _ rfl
              have b1 := blk_cell kb7 1 _ rfl
              have b2 := blk_cell kb7 2 _ rfl
              have b3 := blk_cell kb7 3 _ rfl
              have b4 := blk_cell kb7 4 _ rfl
              have b5 := blk_cell kb7 5 _ rfl
              have HS7 := Lib.hid hb7.size
              clear hP6 hmy6 hmB6 kb6 kx6 hB6 hb7 hiC q0 q1 q2 q3 q4 q5
              go_wp2_with fail
              refine (spoil_is (s.bIn x.cy x.I) (s.bCh x.cy) (s.bCy x.cy) aB cB M w7 hmB7.1 hmB7.2).mono ?_
              rintro e w8 ⟨rfl, hbar⟩
              have z1 := HBB.out
              have z2 := HMM.out
              have z3 := HZX.out
              have z4 := HW1.out
              have z5 := HGR.out
              have z6 := HHR.out
              have z7 := HBO.out
              have z8 := HS4.out
              have z9 := HS5.out
              have nBg : ¬ Blk aB g := fun hk => by have := z1 _ hk; omega
              have nBh : ¬ Blk aB h := fun hk => by have := z1 _ hk; omega
              have nXB : ∀ j, XA j → ¬ Blk aB j := fun j hj hk => by
                have h1 := z1 _ hk
                rcases HGRX.out j hj with h2 | h2
                · have := HXB.out j h2; omega
                · omega
              have nYB : ∀ j, YB j → ¬ Blk aB j := fun j hj hk => by
                have h1 := z1 _ hk
                rcases HYY.out j hj with h2 | h2
                · have := HYB.out j h2; omega
                · omega
              have nXO : ∀ j, XA j → ¬ Blk aO j := fun j hj hk => by
                have h1 := z7 _ hk
                rcases HGRX.out j hj with h2 | h2
                · have := HXB.out j h2; omega
                · omega
              have nYO : ∀ j, YB j → ¬ Blk aO j := fun j hj hk => by
                have h1 := z7 _ hk
                rcases HYY.out j hj with h2 | h2
                · have := HYB.out j h2; omega
                · omega
              have hP8 := hP7.bar hbar nBg nBh nXB nYB
              have hmy8 := my_bar hmy7 hbar (fun k hk hk2 => by have := z1 _ hk2; have := z7 _ hk; omega)
              have kx8 := hbar.keep (fun hk => by have := z1 _ hk; omega) kx7
              have hB8 := Bar.below hB7 (fun k hk => by have := z1 _ hk; omega) hB7.size hbar
              have hs8 := hbar.size
              have hs7 := HS7.out
              have hC8 : (s.begin x.cy x.I).ch = c := by rw [begin_ch]; exact hsc
              have hz8 : W2.heap.size ≤ w8.heap.size := by omega
              clear z1 z2 z3 z4 z5 z6 z7 z8 z9 nBg nBh nXB nYB hP7 hmy7 hmB7 kb7 kx7 hB7 hbar hs8 hs7 b0 b1 b2 b3 b4 b5
              go_wp2_with fail
              go_meet
              exact ⟨XA, YB, s.begin x.cy x.I, hC8, hP8, nXO, nYO, kx8, hmy8, hB8, hz8⟩
            | false =>
              have hcd := (Below.refl W2.heap.size W2).drew
              have hPd := hP2.below hcd
              have hmyd := my_below hcd hmy
              have hBd := hB2.trans (hcd.mono hB2.size)
              have kxd : W2.drew.heap[zx]? = _ := kx
              obtain ⟨di, d0, d1, d2, d3, d4, d5, d6⟩ := HROW.out W2.drew hBd
              have hse : ((s.hear x.ch x.cy x.I).2 != (s.hear x.ch x.cy x.I).2) = false := by simp
              clear hcd x0 x1 x2 x3 x4 x5
              go_upto_region 19 with fail
              go_region_held3 (fun w' => w'.cell? ⟨zx, 0, none⟩ = some (.int .i64 x.ch) ∧ w'.cell? ⟨zx, 1, none⟩ = some (.int .i64 x.cy) ∧ w'.cell? ⟨zx, 2, none⟩ = some (.int .u64 (x.I.o : Int)) ∧ w'.cell? ⟨zx, 3, none⟩ = some (.int .u32 (x.I.n : Int)) ∧ w'.cell? ⟨zx, 4, none⟩ = some (.int .u32 (x.I.r : Int)) ∧ w'.cell? ⟨zx, 5, none⟩ = some (.slice aO x.I.c.length cO) ∧
                  w'.cell? ⟨b, off + k * 7 + 1, none⟩ = some (.int .i64 x.ch) ∧ w'.cell? ⟨b, off + k * 7 + 2, none⟩ = some (.int .i64 x.cy) ∧ w'.cell? ⟨b, off + k * 7 + 3, none⟩ = some (.int .u64 (x.I.o : Int)) ∧ w'.cell? ⟨b, off + k * 7 + 4, none⟩ = some (.int .u32 (x.I.n : Int)) ∧ w'.cell? ⟨b, off + k * 7 + 5, none⟩ = some (.int .u32 (x.I.r : Int)) ∧ w'.cell? ⟨b, off + k * 7 + 6, none⟩ = some (.slice x.a x.I.c.length x.cap))
                (first
                  | with_reducible exact ⟨blk_cell kx6 0 _ rfl, blk_cell kx6 1 _ rfl, blk_cell kx6 2 _ rfl, blk_cell kx6 3 _ rfl, blk_cell kx6 4 _ rfl, blk_cell kx6 5 _ rfl, j1, j2, j3, j4, j5, j6⟩
                  | with_reducible exact ⟨blk_cell kx5 0 _ rfl, blk_cell kx5 1 _ rfl, blk_cell kx5 2 _ rfl, blk_cell kx5 3 _ rfl, blk_cell kx5 4 _ rfl, blk_cell kx5 5 _ rfl, f1, f2, f3, f4, f5, f6⟩
                  | with_reducible exact ⟨blk_cell kx4 0 _ rfl, blk_cell kx4 1 _ rfl, blk_cell kx4 2 _ rfl, blk_cell kx4 3 _ rfl, blk_cell kx4 4 _ rfl, blk_cell kx4 5 _ rfl, e1, e2, e3, e4, e5, e6⟩
                  | with_reducible exact ⟨blk_cell kxd 0 _ rfl, blk_cell kxd 1 _ rfl, blk_cell kxd 2 _ rfl, blk_cell kxd 3 _ rfl, blk_cell kxd 4 _ rfl, blk_cell kxd 5 _ rfl, d1, d2, d3, d4, d5, d6⟩)
                (first
                  | ((with_reducible refine (hear_any s X g x.ch x.cy x.I aO cO _ hPd.a hch hmyd.2).mono ?_); rintro e w4 ⟨XA, MA, rfl, hA4, hgrA, _, ho4⟩; have kx4 := ho4.keep hgx kxd; have hB4 := Only.below hBd hgw hBd.size ho4; have hR4 := hPd.r.only ho4 hhg hPd.yg; have hmy4 := my_only hmyd ho4 HGR.out; obtain ⟨ei, e0, e1, e2, e3, e4, e5, e6⟩ := HROW.out w4 hB4)
                  | ((with_reducible refine (plain_is x.I x.ch x.cy x.a x.cap _).mono ?_); rintro e w5 ⟨rfl, hb5⟩; have kx5 := blk_keep hb5 kx4; have hB5 := hB4.trans (hb5.mono hB4.size); have hR5 := hR4.below hb5; have hA5 := hA4.below hb5; have hmy5 := my_below hb5 hmy4; obtain ⟨fi, f0, f1, f2, f3, f4, f5, f6⟩ := HROW.out w5 hB5)
                  | ((with_reducible refine (rhear_any s Y h x.ch x.cy x.I x.a x.cap _ hR5 hch fi (fun hc hk => by have := HBLK.out hc _ hk; omega)).mono ?_); rintro e w6 ⟨YB, MB, rfl, hR6, hgrB, _, ho6⟩; have kx6 := ho6.keep hhx kx5; have hB6 := Only.below hB5 hhw hB5.size ho6; obtain ⟨ji, j0, j1, j2, j3, j4, j5, j6⟩ := HROW.out w6 hB6))
              have z3 := HZX.out
              have z4 := HW1.out
              have z5 := HGR.out
              have z6 := HHR.out
              have z7 := HBO.out
              have z8 := ho4.size
              have z9 := hb5.size
              have za := ho6.size
              have zd : W2.drew.heap.size = W2.heap.size := rfl
              have nXh : ¬ XA h := fun hj => (hgrA h hj).elim hPd.xh (fun h1 => by have := h1.1; omega)
              have nYg : ¬ YB g := fun hj => (hgrB g hj).elim hPd.yg (fun h1 => by have := h1.1; omega)
              have nXO : ∀ j, XA j → ¬ Blk aO j := fun j hj hk => by
                have h1 := z7 _ hk
                rcases hgrA j hj with h2 | h2
                · have := HXB.out j h2; omega
                · omega
              have nYO : ∀ j, YB j → ¬ Blk aO j := fun j hj hk => by
                have h1 := z7 _ hk
                rcases hgrB j hj with h2 | h2
                · have := HYB.out j h2; omega
                · omega
              have hP6 : Pair w6 g h XA YB (s.hear x.ch x.cy x.I).1 := ⟨hA5.only ho6 hPd.gh nXh, hR6, nXh, nYg, hPd.gh⟩
              have hmy6 := my_only hmy5 ho6 HHR.out
              have hC6 : (s.hear x.ch x.cy x.I).1.ch = c := by rw [hear_ch]; exact hsc
              have hz6 : W2.heap.size ≤ w6.heap.size := by omega
              clear z3 z4 z5 z6 z7 z8 z9 za zd nXh nYg hR6 hA5 hmy5 hA4 hR4 hR5 hmy4 ho4 hb5 ho6 hB4 hB5 kx4 kx5 hPd hmyd kxd hBd hP2 hmy kx hB2
              go_wp2_with fail
              go_meet
              exact ⟨XA, YB, (s.hear x.ch x.cy x.I).1, hC6, hP6, nXO, nYO, kx6, hmy6, hB6, hz6⟩
          case rest =>
          obtain ⟨X', Y', s', hsc', hP', hXO, hYO, kx', hmy', hB', hsz'⟩ := hcut
          have x0 := blk_cell kx' 0 _ rfl
          have x1 := blk_cell kx' 1 _ rfl
          have x2 := blk_cell kx' 2 _ rfl
          have x3 := blk_cell kx' 3 _ rfl
          have x4 := blk_cell kx' 4 _ rfl
          have x5 := blk_cell kx' 5 _ rfl
          clear hP2 hB2 hmy kx hsc hB
          go_wp2_with fail
          refine (spoil_is x.I x.ch x.cy aO cO wr.heap.size wc hmy'.1 hmy'.2).mono ?_
          rintro e w4 ⟨rfl, hbar⟩
          have hP4 := hP'.bar hbar (fun hk => by have := HBO.out _ hk; have := HGR.out; omega) (fun hk => by have := HBO.out _ hk; have := HHR.out; omega) hXO hYO
          have hB4 := Bar.below hB' (fun k hk => Nat.le_trans (Nat.le_trans hgw (Nat.le_of_lt HGR.out)) (HBO.out k hk).1) hB'.size hbar
          clear x0 x1 x2 x3 x4 x5 kx' hmy' hbar hP' hB' hsz' hXO hYO
          go_wp2_with fail
          refine (merged_any s' X' g w4 hP4.a).mono ?_
          rintro e w5 ⟨aM, cM, rfl, hmM, hiM, hb5⟩
          have HP4 := Lib.hid hP4
          have HBM : Hid (∀ k, Blk aM k → w4.heap.size ≤ k) := Lib.hid (fun k hk => (hmM.blk hk).1)
          have hP5 := hP4.below hb5
          have hB5 := hB4.trans (hb5.mono hB4.size)
          have HB4 := Lib.hid hB4
          clear hP4 hB4 hb5
          go_wp2_with fail
          refine name_calls ?_
          intro W6 hW6
          have km : W6.heap[w5.heap.size]? = some (.cells #[.int .u64 (s'.mIn.o : Int), .int .u32 (s'.mIn.n : Int), .int .u32 (s'.mIn.r : Int), .slice aM s'.mIn.c.length cM] 33 (0, 0)) := by rw [hW6]; exact heap_new1 _ _
          have hb6 : Below w5.heap.size w5 W6 := by rw [hW6]; exact below1 _ _
          obtain ⟨zm, hzm⟩ : ∃ zm, zm = w5.heap.size := ⟨_, rfl⟩
          rw [← hzm] at km ⊢
          have hP6 := hP5.below hb6
          have hB6 := hB5.trans (hb6.mono hB5.size)
          have hmy6 := my_below hb6 ⟨hmM, hiM⟩
          clear hW6 hzm hb6 hmM hiM hP5 hB5
          refine (rmerged_any s' Y' h W6 hP6.r).mono ?_
          rintro e w7 ⟨aN, cN, rfl, _, hiN, hb7⟩
          have km7 := blk_keep hb7 km
          have hP7 := hP6.below hb7
          have hB7 := hB6.trans (hb7.mono hB6.size)
          have hmy7 := my_below hb7 hmy6
          clear hb7 km hP6 hB6 hmy6
          go_wp2_with fail
          refine name_world ?_
          intro W8 hW8
          have kn : W8.heap[w7.heap.size]? = some (.cells #[.int .u64 (s'.mIn.o : Int), .int .u32 (s'.mIn.n : Int), .int .u32 (s'.mIn.r : Int), .slice aN s'.mIn.c.length cN] 33 (0, 0)) := by rw [hW8]; exact heap_new1 _ _
          have hb8 : Below w7.heap.size w7 W8 := by rw [hW8]; exact below1 _ _
          obtain ⟨zn, hzn⟩ : ∃ zn, zn = w7.heap.size := ⟨_, rfl⟩
          rw [← hzn] at kn ⊢
          have km8 := blk_keep hb8 km7
          have hP8 := hP7.below hb8
          have hB8 := hB7.trans (hb8.mono hB7.size)
          have hmy8 := my_below hb8 hmy7
          have hiN8 := hiN.below hb8
          clear hW8 hzn hb8 hiN km7 hP7 hB7 hmy7
          have c1 : ∀ w', Below W8.heap.size W8 w' → Calls Try.prog 22 #[.agg #[.int .u64 (s'.mIn.o : Int), .int .u32 (s'.mIn.n : Int), .int .u32 (s'.mIn.r : Int), .slice aM s'.mIn.c.length cM], .agg #[.int .u64 (s'.mIn.o : Int), .int .u32 (s'.mIn.n : Int), .int .u32 (s'.mIn.r : Int), .slice aN s'.mIn.c.length cN]] w' fun e w'' => e = .returned (.bool true) ∧ Below W8.heap.size W8 w'' :=
            fun w' hw' => (refsame_in s'.mIn s'.mIn aM aN cM cN w' (hmy8.2.below hw') (hiN8.below hw')).mono (fun e w9 ⟨h1, h2⟩ => ⟨by rw [h1, In.same_refl], below_on hw' h2⟩)
          have c2 : ∀ w', Below W8.heap.size W8 w' → Calls Try.prog 23 #[.pointer (some ⟨g, 0, none⟩)] w' fun e w'' => e = .returned (.int .i64 s'.cy) ∧ Below W8.heap.size W8 w'' :=
            fun w' hw' => (cycle_is s' X' g w' (hP8.a.below hw')).mono (fun e w9 ⟨h1, h2⟩ => ⟨h1, h2 ▸ hw'⟩)
          have c3 : ∀ w', Below W8.heap.size W8 w' → w'.cell? ⟨h, 1, none⟩ = some (.int .i64 s'.cy) := fun w' hw' => by
            obtain ⟨_, _, _, _, _, _, _, _, _, _, _, _, _, _, h1, _⟩ := unfold_rside (hP8.r.below hw')
            exact blk_cell h1 1 _ rfl
          obtain ⟨ok, hok⟩ : ∃ ok, ok = s'.mOk := ⟨_, rfl⟩
          rw [← hok]
          have v1 : (ok != ok) = false := by simp
          have v2 : (s'.cy != s'.cy) = false := by simp
          clear hok
          refine wp_region_calm (by kernel_rfl) (by kernel_rfl) ?_
          repeat
            (with_reducible apply wpQuiet_step
             intro K hK
             go_simp
             first
               | (refine hK _ ?_; clear hK K)
               | (apply Exists.intro
                  refine ⟨fun w' hw' => ?_, hK _ ?_⟩
                  · (first
                       | with_reducible exact c1 _ hw'
                       | with_reducible exact c2 _ hw'
                       | (have km' := blk_keep hw' km8
                          have kn' := blk_keep hw' kn
                          have h1 := c3 _ hw'
                          have m0 := blk_cell km' 0 _ rfl
                          have m1 := blk_cell km' 1 _ rfl
                          have m2 := blk_cell km' 2 _ rfl
                          have m3 := blk_cell km' 3 _ rfl
                          have n0 := blk_cell kn' 0 _ rfl
                          have n1 := blk_cell kn' 1 _ rfl
                          have n2 := blk_cell kn' 2 _ rfl
                          have n3 := blk_cell kn' 3 _ rfl
                          go_simp
                          first | done | exact rfl | exact ⟨rfl, rfl⟩ | exact c1 _ hw' | exact c2 _ hw'))
                  clear hK K))
          refine wpQuiet_nil ?_
          intro w9 hb9
          have km9 := blk_keep hb9 km8
          have hP9 := hP8.below hb9
          have hB9 := hB8.trans (hb9.mono hB8.size)
          have hmy9 := my_below hb9 hmy8
          have m0 := blk_cell km9 0 _ rfl
          have m1 := blk_cell km9 1 _ rfl
          have m2 := blk_cell km9 2 _ rfl
          have m3 := blk_cell km9 3 _ rfl
          clear c1 c2 c3 hb9 km8 km9 kn hP8 hB8 hmy8 hiN8
          go_wp2_with fail
          refine (spoil_is s'.mIn 0 0 aM cM _ w9 hmy9.1 hmy9.2).mono ?_
          rintro e w10 ⟨rfl, hbar⟩
          have hP10 := hP9.bar hbar (fun hk => by have := HBM.out _ hk; have := HP4.out.a.lt; omega) (fun hk => by have := HBM.out _ hk; have := HP4.out.r.lt; omega)
            (fun j hj hk => by have := HBM.out _ hk; have := HP4.out.a.bound j hj; omega) (fun j hj hk => by have := HBM.out _ hk; have := HP4.out.r.bound j hj; omega)
          have hB10 := Bar.below hB9 (fun k hk => Nat.le_trans HB4.out.size (HBM.out k hk)) hB9.size hbar
          clear hbar hP9 hB9 hmy9 m0 m1 m2 m3
          go_wp2_with fail
          go_roundg (n - (k + 1))
          case rel => exact ⟨k + 1, X', Y', s', by omega, by go_num, hsc', hP10, hB10⟩
          case measure => omega
        · obtain rfl : k = n := by omega
          go_wp2_with fail
          refine (works_any _).mono ?_
          rintro e w2 ⟨rfl, hb2⟩
          go_wp2_with fail
          go_ret
          exact ⟨rfl, hB.trans (hb2.mono hB.size)⟩
    · have h0 : ¬ c = 0 := fun e => hc (.inl e)
      have h1 : ¬ c = 1 := fun e => hc (.inr e)
      have d0 : (c != 0) = true := by simpa using h0
      have d1 : (c != 1) = true := by simpa using h1
      have d2 : (c == 0) = false := by simpa using h0
      have d3 : (c == 1) = false := by simpa using h1
      clear hc
      go_enter Try.func3, Try.ntmps3
      go_wp2_with fail
      refine (few_is l a n cap w HN.out hm hl).mono ?_
      rintro e w1 ⟨rfl, hb1⟩
      rw [HF.out]
      go_wp2_with fail
      refine (new_nil c _ h0 h1).mono ?_
      rintro e w2 ⟨rfl, rfl⟩
      go_wp2_with fail
      refine (works_any _).mono ?_
      rintro e w2 ⟨rfl, hb2⟩
      go_wp2_with fail
      go_ret
      exact ⟨rfl, below_on hb1 hb2⟩
theorem walk_AgreePlays (a0 : Int) (a1 : Option Addr) (len1 cap1 : Nat) (w : World) (_w0 : (Lit.int .i64 a0).wf = true) (w1 : Rd Try.prog w 22 [.slice a1 len1 cap1]) :
    Calls Try.prog 3 #[.int .i64 a0, .slice a1 len1 cap1] w fun e w' => e = .returned (.bool true) ∧ Below w.heap.size w w' := by
  obtain ⟨l, h1, h2, h3⟩ := cals_of w1
  exact plays_any a0 a1 len1 cap1 l w h1 h2 (by unfold CalsAt at *; exact h3)
end Go.Proofs.Ytbbacmlcimgjbaa
