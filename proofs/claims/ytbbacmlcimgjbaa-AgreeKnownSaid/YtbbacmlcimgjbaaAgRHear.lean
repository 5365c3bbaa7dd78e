/-
  The walk of the document's answer for chapter 20: Hear.
-/
import Derived.Test.YtbbacmlcimgjbaaAgHear
namespace Go.Proofs.Ytbbacmlcimgjbaa
open Go.RowKit
attribute [local irreducible] shortB fewB In.ok InAt MyIn LongAt In.same In.merge both cmdCells SideAt OptAt RdAt RSideAt CellsAt

theorem unfold_rside {w : World} {X : Nat → Prop} {g : Nat} {s : Side} (h : RSideAt w X g s) : ∃ o0 o1 o2 o3 t0 t1 t2 t3 kc ky k0 k1 k2 k3,
    w.heap[g]? = some (.cells #[.int .i64 s.ch, .int .i64 s.cy, .bool s.own.isSome, o0, o1, o2, o3, .bool s.other.isSome, t0, t1, t2, t3, .bool s.kept.isSome, kc, ky, k0, k1, k2, k3, .bool s.broken] 56 (0, 0)) ∧
    ¬ X g ∧ (∀ k, X k → k < w.heap.size) ∧ CellsAt w X o0 o1 o2 o3 s.own ∧ CellsAt w X t0 t1 t2 t3 s.other ∧ CellsAt w X k0 k1 k2 k3 (s.kept.map Prod.snd) ∧ (∀ x, s.kept = some x → ky = .int .i64 x.1) := by unfold RSideAt at h; exact h
theorem CellsAt.plus {w w' : World} {X : Nat → Prop} {L M : Nat} {c0 c1 c2 c3 : Value} {x : Option In} (h : CellsAt w X c0 c1 c2 c3 x) (hk : ∀ k, X k → w'.heap[k]? = w.heap[k]?) : CellsAt w' (Plus X L M) c0 c1 c2 c3 x := CellsAt.keep h hk fun _ h => .inl h
theorem cellsAt_new {w : World} {X : Nat → Prop} {L M cap : Nat} {a : Option Addr} {I : In} (hin : InAt w a cap I) (hx : InX (Plus X L M) a) : CellsAt w (Plus X L M) (.int .u64 (I.o : Int)) (.int .u32 (I.n : Int)) (.int .u32 (I.r : Int)) (.slice a I.c.length cap) (some I) := by
  unfold CellsAt
  exact ⟨a, cap, rfl, rfl, rfl, rfl, hin, hx⟩
theorem RSideAt.make {w w' : World} {X : Nat → Prop} {g L M : Nat} {s : Side} {o0 o1 o2 o3 t0 t1 t2 t3 kc ky k0 k1 k2 k3 : Value} {b1 b2 b3 : Bool}
    (hblk : w'.heap[g]? = some (.cells #[.int .i64 s.ch, .int .i64 s.cy, .bool b1, o0, o1, o2, o3, .bool b2, t0, t1, t2, t3, .bool b3, kc, ky, k0, k1, k2, k3, .bool s.broken] 56 (0, 0)))
    (hb1 : b1 = s.own.isSome) (hb2 : b2 = s.other.isSome) (hb3 : b3 = s.kept.isSome) (hXg : ¬ X g) (hbd : ∀ k, X k → k < w.heap.size)
    (hg : g < L) (hwL : w.heap.size ≤ L) (hLM : L ≤ M) (hM : M ≤ w'.heap.size) (h1 : CellsAt w' (Plus X L M) o0 o1 o2 o3 s.own) (h2 : CellsAt w' (Plus X L M) t0 t1 t2 t3 s.other) (h3 : CellsAt w' (Plus X L M) k0 k1 k2 k3 (s.kept.map Prod.snd)) (h4 : ∀ x, s.kept = some x → ky = .int .i64 x.1) : RSideAt w' (Plus X L M) g s := by
  subst hb1 hb2 hb3
  unfold RSideAt
  refine ⟨o0, o1, o2, o3, t0, t1, t2, t3, kc, ky, k0, k1, k2, k3, hblk, ?_, ?_, h1, h2, h3, h4⟩
  · rintro (h | h)
    · exact hXg h
    · omega
  · rintro k (h | h)
    · have := hbd k h; omega
    · omega

theorem rset4 {w : World} {g : Nat} {a0 a1 a2 a3 a4 a5 a6 a7 a8 a9 a10 a11 a12 a13 a14 a15 a16 a17 a18 a19 : Value} {t : TypeId} {fr : Nat × Nat} (h0 : w.heap[g]? = some (.cells #[a0, a1, a2, a3, a4, a5, a6, a7, a8, a9, a10, a11, a12, a13, a14, a15, a16, a17, a18, a19] t fr)) (u0 u1 u2 u3 : Value) :
    ((((w.setCell ⟨g, 8, none⟩ u0).setCell ⟨g, 9, none⟩ u1).setCell ⟨g, 10, none⟩ u2).setCell ⟨g, 11, none⟩ u3).heap[g]? = some (.cells #[a0, a1, a2, a3, a4, a5, a6, a7, u0, u1, u2, u3, a12, a13, a14, a15, a16, a17, a18, a19] t fr) ∧ Only g w ((((w.setCell ⟨g, 8, none⟩ u0).setCell ⟨g, 9, none⟩ u1).setCell ⟨g, 10, none⟩ u2).setCell ⟨g, 11, none⟩ u3) := by
  have o0 : Only g w w := Only.refl g w
  have h1 : (w.setCell ⟨g, 8, none⟩ u0).heap[g]? = some (.cells #[a0, a1, a2, a3, a4, a5, a6, a7, u0, a9, a10, a11, a12, a13, a14, a15, a16, a17, a18, a19] t fr) := blk_set h0 8 u0
  have o1 := o0.setCell (p := ⟨g, 8, none⟩) rfl u0
  generalize w.setCell ⟨g, 8, none⟩ u0 = w1 at h1 o1 ⊢
  have h2 : (w1.setCell ⟨g, 9, none⟩ u1).heap[g]? = some (.cells #[a0, a1, a2, a3, a4, a5, a6, a7, u0, u1, a10, a11, a12, a13, a14, a15, a16, a17, a18, a19] t fr) := blk_set h1 9 u1
  have o2 := o1.setCell (p := ⟨g, 9, none⟩) rfl u1
  generalize w1.setCell ⟨g, 9, none⟩ u1 = w2 at h2 o2 ⊢
  have h3 : (w2.setCell ⟨g, 10, none⟩ u2).heap[g]? = some (.cells #[a0, a1, a2, a3, a4, a5, a6, a7, u0, u1, u2, a11, a12, a13, a14, a15, a16, a17, a18, a19] t fr) := blk_set h2 10 u2
  have o3 := o2.setCell (p := ⟨g, 10, none⟩) rfl u2
  generalize w2.setCell ⟨g, 10, none⟩ u2 = w3 at h3 o3 ⊢
  have h4 : (w3.setCell ⟨g, 11, none⟩ u3).heap[g]? = some (.cells #[a0, a1, a2, a3, a4, a5, a6, a7, u0, u1, u2, u3, a12, a13, a14, a15, a16, a17, a18, a19] t fr) := blk_set h3 11 u3
  have o4 := o3.setCell (p := ⟨g, 11, none⟩) rfl u3
  generalize w3.setCell ⟨g, 11, none⟩ u3 = w4 at h4 o4 ⊢
  exact ⟨h4, o4⟩

theorem rset6 {w : World} {g : Nat} {a0 a1 a2 a3 a4 a5 a6 a7 a8 a9 a10 a11 a12 a13 a14 a15 a16 a17 a18 a19 : Value} {t : TypeId} {fr : Nat × Nat} (h0 : w.heap[g]? = some (.cells #[a0, a1, a2, a3, a4, a5, a6, a7, a8, a9, a10, a11, a12, a13, a14, a15, a16, a17, a18, a19] t fr)) (u0 u1 u2 u3 u4 u5 : Value) :
    ((((((w.setCell ⟨g, 13, none⟩ u0).setCell ⟨g, 14, none⟩ u1).setCell ⟨g, 15, none⟩ u2).setCell ⟨g, 16, none⟩ u3).setCell ⟨g, 17, none⟩ u4).setCell ⟨g, 18, none⟩ u5).heap[g]? = some (.cells #[a0, a1, a2, a3, a4, a5, a6, a7, a8, a9, a10, a11, a12, u0, u1, u2, u3, u4, u5, a19] t fr) ∧ Only g w ((((((w.setCell ⟨g, 13, none⟩ u0).setCell ⟨g, 14, none⟩ u1).setCell ⟨g, 15, none⟩ u2).setCell ⟨g, 16, none⟩ u3).setCell ⟨g, 17, none⟩ u4).setCell ⟨g, 18, none⟩ u5) := by
  have o0 : Only g w w := Only.refl g w
  have h1 : (w.setCell ⟨g, 13, none⟩ u0).heap[g]? = some (.cells #[a0, a1, a2, a3, a4, a5, a6, a7, a8, a9, a10, a11, a12, u0, a14, a15, a16, a17, a18, a19] t fr) := blk_set h0 13 u0
  have o1 := o0.setCell (p := ⟨g, 13, none⟩) rfl u0
  generalize w.setCell ⟨g, 13, none⟩ u0 = w1 at h1 o1 ⊢
  have h2 : (w1.setCell ⟨g, 14, none⟩ u1).heap[g]? = some (.cells #[a0, a1, a2, a3, a4, a5, a6, a7, a8, a9, a10, a11, a12, u0, u1, a15, a16, a17, a18, a19] t fr) := blk_set h1 14 u1
  have o2 := o1.setCell (p := ⟨g, 14, none⟩) rfl u1
  generalize w1.setCell ⟨g, 14, none⟩ u1 = w2 at h2 o2 ⊢
  have h3 : (w2.setCell ⟨g, 15, none⟩ u2).heap[g]? = some (.cells #[a0, a1, a2, a3, a4, a5, a6, a7, a8, a9, a10, a11, a12, u0, u1, u2, a16, a17, a18, a19] t fr) := blk_set h2 15 u2
  have o3 := o2.setCell (p := ⟨g, 15, none⟩) rfl u2
  generalize w2.setCell ⟨g, 15, none⟩ u2 = w3 at h3 o3 ⊢
  have h4 : (w3.setCell ⟨g, 16, none⟩ u3).heap[g]? = some (.cells #[a0, a1, a2, a3, a4, a5, a6, a7, a8, a9, a10, a11, a12, u0, u1, u2, u3, a17, a18, a19] t fr) := blk_set h3 16 u3
  have o4 := o3.setCell (p := ⟨g, 16, none⟩) rfl u3
  generalize w3.setCell ⟨g, 16, none⟩ u3 = w4 at h4 o4 ⊢
  have h5 : (w4.setCell ⟨g, 17, none⟩ u4).heap[g]? = some (.cells #[a0, a1, a2, a3, a4, a5, a6, a7, a8, a9, a10, a11, a12, u0, u1, u2, u3, u4, a18, a19] t fr) := blk_set h4 17 u4
  have o5 := o4.setCell (p := ⟨g, 17, none⟩) rfl u4
  generalize w4.setCell ⟨g, 17, none⟩ u4 = w5 at h5 o5 ⊢
  have h6 : (w5.setCell ⟨g, 18, none⟩ u5).heap[g]? = some (.cells #[a0, a1, a2, a3, a4, a5, a6, a7, a8, a9, a10, a11, a12, u0, u1, u2, u3, u4, u5, a19] t fr) := blk_set h5 18 u5
  have o6 := o5.setCell (p := ⟨g, 18, none⟩) rfl u5
  generalize w5.setCell ⟨g, 18, none⟩ u5 = w6 at h6 o6 ⊢
  exact ⟨h6, o6⟩

theorem name_prop {p : World → Prop} {w : World} (h : ∀ W, W = w → p W) : p w := h w rfl

set_option maxHeartbeats 2000000 in
theorem rhear_arg (s : Side) (X : Nat → Prop) (g : Nat) (ch cy : Int) (I : In) (a : Option Addr) (cap : Nat) (w : World) (h : RSideAt w X g s) (hch : s.ch = 0 ∨ s.ch = 1) (hin : InAt w a cap I) (hcc : ¬ ch = 1 - s.ch) :
    Calls Try.prog 18 #[.pointer (some ⟨g, 0, none⟩), .agg #[.int .i64 ch, .int .i64 cy, .int .u64 (I.o : Int), .int .u32 (I.n : Int), .int .u32 (I.r : Int), .slice a I.c.length cap]] w
      fun e w' => ∃ X' M, e = .returned (.int .i64 (s.hear ch cy I).2) ∧ RSideAt w' X' g (s.hear ch cy I).1 ∧ Gr X X' w.heap.size M ∧ M ≤ w'.heap.size ∧ Only g w w' := by
  have HP : Hid (s.hear ch cy I = (s, 2)) := Lib.hid (by unfold Side.hear; rw [if_pos hcc])
  have HS := Lib.hid h
  have hlt := h.lt
  obtain ⟨o0, o1, o2, o3, t0, t1, t2, t3, kc, ky, x0, x1, x2, x3, h1, hXg, hbd, h4, h5, h6, h7⟩ := unfold_rside h
  have H4 := Lib.hid h4
  have H5 := Lib.hid h5
  have H6 := Lib.hid h6
  have H7 := Lib.hid h7
  have m1 : wrap64 (1 - s.ch) = 1 - s.ch := by unfold wrap64; omega
  have m2 : IntKind.i64.wrap (1 - s.ch) = 1 - s.ch := by rw [IntWalk.i64_left]; exact m1
  have m3 : (ch != 1 - s.ch) = true := by simpa using hcc
  have m4 : (ch == 1 - s.ch) = false := by simpa using hcc
  have HXG := Lib.hid hXg
  have HBD := Lib.hid hbd
  clear h4 hbd hXg hch h7 h5 h6 hcc
  go_enter Try.func18, Try.ntmps18
  go_wp2_with fail
  refine name_world ?_
  intro W hW
  have kr : W.heap[w.heap.size]? = some (.cells #[.int .i64 (ch), .int .i64 cy, .int .u64 (I.o : Int), .int .u32 (I.n : Int), .int .u32 (I.r : Int), .slice a I.c.length cap] 43 (0, 0)) := by rw [hW]; exact heap_new1 _ _
  have hB0 : Below w.heap.size w W := by rw [hW]; exact below1 _ _
  have hWs : W.heap.size = w.heap.size + 1 := by rw [hW]; exact Array.size_push ..
  have kg := blk_keep hB0 h1
  have hinW := hin.below hB0
  have r0 := blk_cell kr 0 _ rfl
  have r1 := blk_cell kr 1 _ rfl
  have r2 := blk_cell kr 2 _ rfl
  have r3 := blk_cell kr 3 _ rfl
  have r4 := blk_cell kr 4 _ rfl
  have r5 := blk_cell kr 5 _ rfl
  have g0 := blk_cell kg 0 _ rfl
  have g1 := blk_cell kg 1 _ rfl
  have g2 := blk_cell kg 2 _ rfl
  have g3 := blk_cell kg 3 _ rfl
  have g4 := blk_cell kg 4 _ rfl
  have g5 := blk_cell kg 5 _ rfl
  have g6 := blk_cell kg 6 _ rfl
  have g7 := blk_cell kg 7 _ rfl
  have g8 := blk_cell kg 8 _ rfl
  have g9 := blk_cell kg 9 _ rfl
  have g10 := blk_cell kg 10 _ rfl
  have g11 := blk_cell kg 11 _ rfl
  have g12 := blk_cell kg 12 _ rfl
  have g13 := blk_cell kg 13 _ rfl
  have g14 := blk_cell kg 14 _ rfl
  have g15 := blk_cell kg 15 _ rfl
  have g16 := blk_cell kg 16 _ rfl
  have g17 := blk_cell kg 17 _ rfl
  have g18 := blk_cell kg 18 _ rfl
  have g19 := blk_cell kg 19 _ rfl
  have fg := blk_free kg
  have HW := Lib.hid hWs
  obtain ⟨z, hz⟩ : ∃ z, z = w.heap.size := ⟨_, rfl⟩
  rw [← hz] at kr r0 r1 r2 r3 r4 r5 ⊢
  have HZ := Lib.hid hz
  have hzl := blk_lt kr
  have hgl := blk_lt kg
  have hgz : ¬ g = z := by omega
  have hzg : ¬ z = g := by omega
  clear hW hWs hz h1 hin
  go_quiet (fail)
  go_wp2_with fail
  go_ret
  have hBE := fun n => below_drewN hB0 n
  rw [HP.out]
  exact ⟨X, w.heap.size, rfl, HS.out.below (hBE _), fun j hj => .inl hj, (hBE _).size, Only.of_below (hBE _)⟩

set_option maxHeartbeats 2000000 in
theorem rhear_late (s : Side) (X : Nat → Prop) (g : Nat) (ch cy : Int) (I : In) (a : Option Addr) (cap : Nat) (w : World) (h : RSideAt w X g s) (hch : s.ch = 0 ∨ s.ch = 1) (hin : InAt w a cap I) (hcc : ch = 1 - s.ch) (hcy : cy < s.cy) :
    Calls Try.prog 18 #[.pointer (some ⟨g, 0, none⟩), .agg #[.int .i64 ch, .int .i64 cy, .int .u64 (I.o : Int), .int .u32 (I.n : Int), .int .u32 (I.r : Int), .slice a I.c.length cap]] w
      fun e w' => ∃ X' M, e = .returned (.int .i64 (s.hear ch cy I).2) ∧ RSideAt w' X' g (s.hear ch cy I).1 ∧ Gr X X' w.heap.size M ∧ M ≤ w'.heap.size ∧ Only g w w' := by
  have HP : Hid (s.hear ch cy I = (s, 190)) := Lib.hid (by unfold Side.hear; rw [if_neg (by simpa using hcc)]; rw [if_pos hcy])
  have HS := Lib.hid h
  have hlt := h.lt
  obtain ⟨o0, o1, o2, o3, t0, t1, t2, t3, kc, ky, x0, x1, x2, x3, h1, hXg, hbd, h4, h5, h6, h7⟩ := unfold_rside h
  have H4 := Lib.hid h4
  have H5 := Lib.hid h5
  have H6 := Lib.hid h6
  have H7 := Lib.hid h7
  subst hcc
  have m1 : wrap64 (1 - s.ch) = 1 - s.ch := by unfold wrap64; omega
  have m2 : IntKind.i64.wrap (1 - s.ch) = 1 - s.ch := by rw [IntWalk.i64_left]; exact m1
  have m3 : (1 - s.ch != 1 - s.ch) = false := by simp
  have m4 : (1 - s.ch == 1 - s.ch) = true := by simp
  have d1 : decide (cy < s.cy) = true := decide_eq_true hcy
  have HXG := Lib.hid hXg
  have HBD := Lib.hid hbd
  clear h4 hbd hXg hch h7 h5 h6 hcy
  go_enter Try.func18, Try.ntmps18
  go_wp2_with fail
  refine name_world ?_
  intro W hW
  have kr : W.heap[w.heap.size]? = some (.cells #[.int .i64 (1 - s.ch), .int .i64 cy, .int .u64 (I.o : Int), .int .u32 (I.n : Int), .int .u32 (I.r : Int), .slice a I.c.length cap] 43 (0, 0)) := by rw [hW]; exact heap_new1 _ _
  have hB0 : Below w.heap.size w W := by rw [hW]; exact below1 _ _
  have hWs : W.heap.size = w.heap.size + 1 := by rw [hW]; exact Array.size_push ..
  have kg := blk_keep hB0 h1
  have hinW := hin.below hB0
  have r0 := blk_cell kr 0 _ rfl
  have r1 := blk_cell kr 1 _ rfl
  have r2 := blk_cell kr 2 _ rfl
  have r3 := blk_cell kr 3 _ rfl
  have r4 := blk_cell kr 4 _ rfl
  have r5 := blk_cell kr 5 _ rfl
  have g0 := blk_cell kg 0 _ rfl
  have g1 := blk_cell kg 1 _ rfl
  have g2 := blk_cell kg 2 _ rfl
  have g3 := blk_cell kg 3 _ rfl
  have g4 := blk_cell kg 4 _ rfl
  have g5 := blk_cell kg 5 _ rfl
  have g6 := blk_cell kg 6 _ rfl
  have g7 := blk_cell kg 7 _ rfl
  have g8 := blk_cell kg 8 _ rfl
  have g9 := blk_cell kg 9 _ rfl
  have g10 := blk_cell kg 10 _ rfl
  have g11 := blk_cell kg 11 _ rfl
  have g12 := blk_cell kg 12 _ rfl
  have g13 := blk_cell kg 13 _ rfl
  have g14 := blk_cell kg 14 _ rfl
  have g15 := blk_cell kg 15 _ rfl
  have g16 := blk_cell kg 16 _ rfl
  have g17 := blk_cell kg 17 _ rfl
  have g18 := blk_cell kg 18 _ rfl
  have g19 := blk_cell kg 19 _ rfl
  have fg := blk_free kg
  have HW := Lib.hid hWs
  obtain ⟨z, hz⟩ : ∃ z, z = w.heap.size := ⟨_, rfl⟩
  rw [← hz] at kr r0 r1 r2 r3 r4 r5 ⊢
  have HZ := Lib.hid hz
  have hzl := blk_lt kr
  have hgl := blk_lt kg
  have hgz : ¬ g = z := by omega
  have hzg : ¬ z = g := by omega
  clear hW hWs hz h1 hin
  go_quiet (fail)
  go_wp2_with fail
  go_quiet (fail)
  go_wp2_with fail
  go_ret
  have hBE := fun (p : Nat × Nat) => below_drewN (below_drewN hB0 p.1) p.2
  rw [HP.out]
  exact ⟨X, w.heap.size, rfl, HS.out.below (hBE (_, _)), fun j hj => .inl hj, (hBE (_, _)).size, Only.of_below (hBE (_, _))⟩

set_option maxHeartbeats 2000000 in
theorem rhear_knone (s : Side) (X : Nat → Prop) (g : Nat) (ch cy : Int) (I : In) (a : Option Addr) (cap : Nat) (w : World) (h : RSideAt w X g s) (hch : s.ch = 0 ∨ s.ch = 1) (hin : InAt w a cap I) (hag : I.c ≠ [] → ¬ Blk a g) (hcc : ch = 1 - s.ch) (hcy : s.cy < cy) (hk : s.kept = none) :
    Calls Try.prog 18 #[.pointer (some ⟨g, 0, none⟩), .agg #[.int .i64 ch, .int .i64 cy, .int .u64 (I.o : Int), .int .u32 (I.n : Int), .int .u32 (I.r : Int), .slice a I.c.length cap]] w
      fun e w' => ∃ X' M, e = .returned (.int .i64 (s.hear ch cy I).2) ∧ RSideAt w' X' g (s.hear ch cy I).1 ∧ Gr X X' w.heap.size M ∧ M ≤ w'.heap.size ∧ Only g w w' := by
  have HAG := Lib.hid hag
  clear hag
  have HP : Hid (s.hear ch cy I = (⟨s.ch, s.cy, s.own, s.other, some (cy, I), s.broken⟩, 0)) := Lib.hid (by unfold Side.hear; rw [if_neg (by simpa using hcc)]; rw [if_neg (show ¬ cy < s.cy by omega)]; rw [if_pos hcy]; rw [hk]; try rfl)
  have HS := Lib.hid h
  have hlt := h.lt
  obtain ⟨o0, o1, o2, o3, t0, t1, t2, t3, kc, ky, x0, x1, x2, x3, h1, hXg, hbd, h4, h5, h6, h7⟩ := unfold_rside h
  have H4 := Lib.hid h4
  have H5 := Lib.hid h5
  have H6 := Lib.hid h6
  have H7 := Lib.hid h7
  subst hcc
  rw [hk] at h1
  have m1 : wrap64 (1 - s.ch) = 1 - s.ch := by unfold wrap64; omega
  have m2 : IntKind.i64.wrap (1 - s.ch) = 1 - s.ch := by rw [IntWalk.i64_left]; exact m1
  have m3 : (1 - s.ch != 1 - s.ch) = false := by simp
  have m4 : (1 - s.ch == 1 - s.ch) = true := by simp
  have d1 : decide (cy < s.cy) = false := decide_eq_false (by omega)
  have d2 : decide (s.cy < cy) = true := decide_eq_true hcy
  have d3 : decide (cy > s.cy) = true := decide_eq_true hcy
  have HK := Lib.hid hk
  have HXG := Lib.hid hXg
  have HBD := Lib.hid hbd
  clear h4 hbd hXg hch h7 h5 h6 hcy hk
  go_enter Try.func18, Try.ntmps18
  go_wp2_with fail
  refine name_world ?_
  intro W hW
  have kr : W.heap[w.heap.size]? = some (.cells #[.int .i64 (1 - s.ch), .int .i64 cy, .int .u64 (I.o : Int), .int .u32 (I.n : Int), .int .u32 (I.r : Int), .slice a I.c.length cap] 43 (0, 0)) := by rw [hW]; exact heap_new1 _ _
  have hB0 : Below w.heap.size w W := by rw [hW]; exact below1 _ _
  have hWs : W.heap.size = w.heap.size + 1 := by rw [hW]; exact Array.size_push ..
  have kg := blk_keep hB0 h1
  have hinW := hin.below hB0
  have r0 := blk_cell kr 0 _ rfl
  have r1 := blk_cell kr 1 _ rfl
  have r2 := blk_cell kr 2 _ rfl
  have r3 := blk_cell kr 3 _ rfl
  have r4 := blk_cell kr 4 _ rfl
  have r5 := blk_cell kr 5 _ rfl
  have g0 := blk_cell kg 0 _ rfl
  have g1 := blk_cell kg 1 _ rfl
  have g2 := blk_cell kg 2 _ rfl
  have g3 := blk_cell kg 3 _ rfl
  have g4 := blk_cell kg 4 _ rfl
  have g5 := blk_cell kg 5 _ rfl
  have g6 := blk_cell kg 6 _ rfl
  have g7 := blk_cell kg 7 _ rfl
  have g8 := blk_cell kg 8 _ rfl
  have g9 := blk_cell kg 9 _ rfl
  have g10 := blk_cell kg 10 _ rfl
  have g11 := blk_cell kg 11 _ rfl
  have g12 := blk_cell kg 12 _ rfl
  have g13 := blk_cell kg 13 _ rfl
  have g14 := blk_cell kg 14 _ rfl
  have g15 := blk_cell kg 15 _ rfl
  have g16 := blk_cell kg 16 _ rfl
  have g17 := blk_cell kg 17 _ rfl
  have g18 := blk_cell kg 18 _ rfl
  have g19 := blk_cell kg 19 _ rfl
  have fg := blk_free kg
  have HW := Lib.hid hWs
  obtain ⟨z, hz⟩ : ∃ z, z = w.heap.size := ⟨_, rfl⟩
  rw [← hz] at kr r0 r1 r2 r3 r4 r5 ⊢
  have HZ := Lib.hid hz
  have hzl := blk_lt kr
  have hgl := blk_lt kg
  have hgz : ¬ g = z := by omega
  have hzg : ¬ z = g := by omega
  clear hW hWs hz h1 hin
  go_quiet (fail)
  go_wp2_with fail
  go_quiet (fail)
  go_wp2_with fail
  go_quiet (fail)
  go_wp2_with fail
  go_quiet (fail)
  go_wp2_with fail
  refine name_world ?_
  intro W1 hW1
  have kg1 : W1.heap[g]? = some (.cells #[.int .i64 s.ch, .int .i64 s.cy, .bool s.own.isSome, o0, o1, o2, o3, .bool s.other.isSome, t0, t1, t2, t3, .bool true, kc, ky, x0, x1, x2, x3, .bool s.broken] 56 (0, 0)) := by rw [hW1]; exact blk_set (blk_drewN kg _) 12 _
  have ho1 : Only g w W1 := by
    rw [hW1]; exact ((Only.of_below hB0).drewN _).setCell (p := ⟨g, 12, none⟩) rfl _
  have hin1 : InAt W1 a cap I := by
    rw [hW1]
    exact (hinW.below (below_drewN (Below.refl _ _) _)).only HAG.out ((Only.refl g _).setCell (p := ⟨g, 12, none⟩) rfl _)
  have hW1s : W1.heap.size = W.heap.size := by rw [hW1]; exact World.size_setCell _ _ _
  have kr1 : W1.heap[z]? = some (.cells #[.int .i64 (1 - s.ch), .int .i64 cy, .int .u64 (I.o : Int), .int .u32 (I.n : Int), .int .u32 (I.r : Int), .slice a I.c.length cap] 43 (0, 0)) := by rw [hW1]; exact blk_set_other (blk_drewN kr _) _ _ hgz
  clear hW1 hB0
  clear g0 g1 g2 g3 g4 g5 g6 g7 g8 g9 g10 g11 g12 g13 g14 g15 g16 g17 g18 g19 r0 r1 r2 r3 r4 r5 fg
  have r0 := blk_cell kr1 0 _ rfl
  have r1 := blk_cell kr1 1 _ rfl
  have r2 := blk_cell kr1 2 _ rfl
  have r3 := blk_cell kr1 3 _ rfl
  have r4 := blk_cell kr1 4 _ rfl
  have r5 := blk_cell kr1 5 _ rfl
  have lz := blk_lt kr1
  have lg := blk_lt kg1
  clear kr kg
  go_region_with ((go_at_call 26; refine (copied_is I a cap _ (hin1.below ((Below.refl _ _).drew))).mono ?_; rintro e w1 ⟨a1, c1, rfl, hm1, hi1, hb1⟩; have hb1 : Below W1.heap.size W1 w1 := (Below.refl _ _).drew.trans hb1; have kr2 := blk_keep hb1 kr1; have kg2 := blk_keep hb1 kg1; have s0 := blk_cell kr2 0 _ rfl; have s1 := blk_cell kr2 1 _ rfl; have q13 := blk_cell kg2 13 _ rfl; have q14 := blk_cell kg2 14 _ rfl; have q15 := blk_cell kg2 15 _ rfl; have q16 := blk_cell kg2 16 _ rfl; have q17 := blk_cell kg2 17 _ rfl; have q18 := blk_cell kg2 18 _ rfl; have fq := blk_free kg2))
  all_goals go_wp2_with fail
  all_goals
    go_ret
    rw [HP.out]
    have ho1 := ho1.trans (Only.of_below hb1)
    have HBL := Lib.hid (fun k hk => (hm1.blk (k := k) hk).2)
    have HWW := Lib.hid (Nat.le_trans (Nat.le_of_eq hW1s.symm) hb1.size)
    have hm1 : MyIn w1 W.heap.size a1 := MyIn.mono hm1 (Nat.le_of_eq hW1s.symm)
    obtain ⟨kg3, ho⟩ := rset6 kg2 (.int .i64 (1 - s.ch)) (.int .i64 cy) (.int .u64 (I.o : Int)) (.int .u32 (I.n : Int)) (.int .u32 (I.r : Int)) (.slice a1 I.c.length c1)
    have hkeep := fun j (hj : X j) => (ho1.trans ho).block j (HBD.out j hj) (by rintro rfl; exact HXG.out hj)
    have hw := HW.out
    have hww := HWW.out
    have hmy := my_only ⟨hm1, hi1⟩ ho (by omega)
    have hnew := cellsAt_new (X := X) hmy.2 (hmy.1.inPlus' HBL.out X)
    refine ⟨Plus X W.heap.size w1.heap.size, w1.heap.size, rfl, RSideAt.make (w := w) kg3 rfl rfl rfl HXG.out HBD.out (by omega) (by omega) hww ho.size (H4.out.plus hkeep) (H5.out.plus hkeep) hnew (fun x hx => by cases hx; rfl), Plus.gr (by omega) (Nat.le_refl _), ho.size, ho1.trans ho⟩

set_option maxHeartbeats 2000000 in
theorem rhear_klt (s : Side) (X : Nat → Prop) (g : Nat) (ch cy : Int) (I : In) (a : Option Addr) (cap : Nat) (w : World) (h : RSideAt w X g s) (hch : s.ch = 0 ∨ s.ch = 1) (hin : InAt w a cap I) (hag : I.c ≠ [] → ¬ Blk a g) (hcc : ch = 1 - s.ch) (hcy : s.cy < cy) (c : Int) (J : In) (hk : s.kept = some (c, J)) (hc : c < cy) :
    Calls Try.prog 18 #[.pointer (some ⟨g, 0, none⟩), .agg #[.int .i64 ch, .int .i64 cy, .int .u64 (I.o : Int), .int .u32 (I.n : Int), .int .u32 (I.r : Int), .slice a I.c.length cap]] w
      fun e w' => ∃ X' M, e = .returned (.int .i64 (s.hear ch cy I).2) ∧ RSideAt w' X' g (s.hear ch cy I).1 ∧ Gr X X' w.heap.size M ∧ M ≤ w'.heap.size ∧ Only g w w' := by
  have HAG := Lib.hid hag
  clear hag
  have HP : Hid (s.hear ch cy I = (⟨s.ch, s.cy, s.own, s.other, some (cy, I), s.broken⟩, 0)) := Lib.hid (by unfold Side.hear; rw [if_neg (by simpa using hcc)]; rw [if_neg (show ¬ cy < s.cy by omega)]; rw [if_pos hcy]; rw [hk]; simp only []; rw [if_pos hc])
  have HS := Lib.hid h
  have hlt := h.lt
  obtain ⟨o0, o1, o2, o3, t0, t1, t2, t3, kc, ky, x0, x1, x2, x3, h1, hXg, hbd, h4, h5, h6, h7⟩ := unfold_rside h
  have H4 := Lib.hid h4
  have H5 := Lib.hid h5
  have H6 := Lib.hid h6
  have H7 := Lib.hid h7
  subst hcc
  rw [hk] at h1
  rw [hk] at h6
  obtain rfl : ky = .int .i64 c := h7 (c, J) hk
  have m1 : wrap64 (1 - s.ch) = 1 - s.ch := by unfold wrap64; omega
  have m2 : IntKind.i64.wrap (1 - s.ch) = 1 - s.ch := by rw [IntWalk.i64_left]; exact m1
  have m3 : (1 - s.ch != 1 - s.ch) = false := by simp
  have m4 : (1 - s.ch == 1 - s.ch) = true := by simp
  have d1 : decide (cy < s.cy) = false := decide_eq_false (by omega)
  have d2 : decide (s.cy < cy) = true := decide_eq_true hcy
  have d3 : decide (cy > s.cy) = true := decide_eq_true hcy
  have d4 : decide (c < cy) = true := decide_eq_true hc
  have d5 : decide (cy > c) = true := decide_eq_true hc
  have HK := Lib.hid hk
  have HXG := Lib.hid hXg
  have HBD := Lib.hid hbd
  clear h4 hbd hXg hch h7 h5 h6 hcy hk hc
  go_enter Try.func18, Try.ntmps18
  go_wp2_with fail
  refine name_world ?_
  intro W hW
  have kr : W.heap[w.heap.size]? = some (.cells #[.int .i64 (1 - s.ch), .int .i64 cy, .int .u64 (I.o : Int), .int .u32 (I.n : Int), .int .u32 (I.r : Int), .slice a I.c.length cap] 43 (0, 0)) := by rw [hW]; exact heap_new1 _ _
  have hB0 : Below w.heap.size w W := by rw [hW]; exact below1 _ _
  have hWs : W.heap.size = w.heap.size + 1 := by rw [hW]; exact Array.size_push ..
  have kg := blk_keep hB0 h1
  have hinW := hin.below hB0
  have r0 := blk_cell kr 0 _ rfl
  have r1 := blk_cell kr 1 _ rfl
  have r2 := blk_cell kr 2 _ rfl
  have r3 := blk_cell kr 3 _ rfl
  have r4 := blk_cell kr 4 _ rfl
  have r5 := blk_cell kr 5 _ rfl
  have g0 := blk_cell kg 0 _ rfl
  have g1 := blk_cell kg 1 _ rfl
  have g2 := blk_cell kg 2 _ rfl
  have g3 := blk_cell kg 3 _ rfl
  have g4 := blk_cell kg 4 _ rfl
  have g5 := blk_cell kg 5 _ rfl
  have g6 := blk_cell kg 6 _ rfl
  have g7 := blk_cell kg 7 _ rfl
  have g8 := blk_cell kg 8 _ rfl
  have g9 := blk_cell kg 9 _ rfl
  have g10 := blk_cell kg 10 _ rfl
  have g11 := blk_cell kg 11 _ rfl
  have g12 := blk_cell kg 12 _ rfl
  have g13 := blk_cell kg 13 _ rfl
  have g14 := blk_cell kg 14 _ rfl
  have g15 := blk_cell kg 15 _ rfl
  have g16 := blk_cell kg 16 _ rfl
  have g17 := blk_cell kg 17 _ rfl
  have g18 := blk_cell kg 18 _ rfl
  have g19 := blk_cell kg 19 _ rfl
  have fg := blk_free kg
  have HW := Lib.hid hWs
  obtain ⟨z, hz⟩ : ∃ z, z = w.heap.size := ⟨_, rfl⟩
  rw [← hz] at kr r0 r1 r2 r3 r4 r5 ⊢
  have HZ := Lib.hid hz
  have hzl := blk_lt kr
  have hgl := blk_lt kg
  have hgz : ¬ g = z := by omega
  have hzg : ¬ z = g := by omega
  clear hW hWs hz h1 hin
  go_quiet (fail)
  go_wp2_with fail
  go_quiet (fail)
  go_wp2_with fail
  go_quiet (fail)
  go_wp2_with fail
  go_quiet (fail)
  go_wp2_with fail
  refine name_world ?_
  intro W1 hW1
  have kg1 : W1.heap[g]? = some (.cells #[.int .i64 s.ch, .int .i64 s.cy, .bool s.own.isSome, o0, o1, o2, o3, .bool s.other.isSome, t0, t1, t2, t3, .bool true, kc, .int .i64 c, x0, x1, x2, x3, .bool s.broken] 56 (0, 0)) := by rw [hW1]; exact blk_set (blk_drewN kg _) 12 _
  have ho1 : Only g w W1 := by
    rw [hW1]; exact ((Only.of_below hB0).drewN _).setCell (p := ⟨g, 12, none⟩) rfl _
  have hin1 : InAt W1 a cap I := by
    rw [hW1]
    exact (hinW.below (below_drewN (Below.refl _ _) _)).only HAG.out ((Only.refl g _).setCell (p := ⟨g, 12, none⟩) rfl _)
  have hW1s : W1.heap.size = W.heap.size := by rw [hW1]; exact World.size_setCell _ _ _
  have kr1 : W1.heap[z]? = some (.cells #[.int .i64 (1 - s.ch), .int .i64 cy, .int .u64 (I.o : Int), .int .u32 (I.n : Int), .int .u32 (I.r : Int), .slice a I.c.length cap] 43 (0, 0)) := by rw [hW1]; exact blk_set_other (blk_drewN kr _) _ _ hgz
  clear hW1 hB0
  clear g0 g1 g2 g3 g4 g5 g6 g7 g8 g9 g10 g11 g12 g13 g14 g15 g16 g17 g18 g19 r0 r1 r2 r3 r4 r5 fg
  have r0 := blk_cell kr1 0 _ rfl
  have r1 := blk_cell kr1 1 _ rfl
  have r2 := blk_cell kr1 2 _ rfl
  have r3 := blk_cell kr1 3 _ rfl
  have r4 := blk_cell kr1 4 _ rfl
  have r5 := blk_cell kr1 5 _ rfl
  have lz := blk_lt kr1
  have lg := blk_lt kg1
  clear kr kg
  go_region_with ((go_at_call 26; refine (copied_is I a cap _ (hin1.below ((Below.refl _ _).drew))).mono ?_; rintro e w1 ⟨a1, c1, rfl, hm1, hi1, hb1⟩; have hb1 : Below W1.heap.size W1 w1 := (Below.refl _ _).drew.trans hb1; have kr2 := blk_keep hb1 kr1; have kg2 := blk_keep hb1 kg1; have s0 := blk_cell kr2 0 _ rfl; have s1 := blk_cell kr2 1 _ rfl; have q13 := blk_cell kg2 13 _ rfl; have q14 := blk_cell kg2 14 _ rfl; have q15 := blk_cell kg2 15 _ rfl; have q16 := blk_cell kg2 16 _ rfl; have q17 := blk_cell kg2 17 _ rfl; have q18 := blk_cell kg2 18 _ rfl; have fq := blk_free kg2))
  all_goals go_wp2_with fail
  all_goals
    go_ret
    rw [HP.out]
    have ho1 := ho1.trans (Only.of_below hb1)
    have HBL := Lib.hid (fun k hk => (hm1.blk (k := k) hk).2)
    have HWW := Lib.hid (Nat.le_trans (Nat.le_of_eq hW1s.symm) hb1.size)
    have hm1 : MyIn w1 W.heap.size a1 := MyIn.mono hm1 (Nat.le_of_eq hW1s.symm)
    obtain ⟨kg3, ho⟩ := rset6 kg2 (.int .i64 (1 - s.ch)) (.int .i64 cy) (.int .u64 (I.o : Int)) (.int .u32 (I.n : Int)) (.int .u32 (I.r : Int)) (.slice a1 I.c.length c1)
    have hkeep := fun j (hj : X j) => (ho1.trans ho).block j (HBD.out j hj) (by rintro rfl; exact HXG.out hj)
    have hw := HW.out
    have hww := HWW.out
    have hmy := my_only ⟨hm1, hi1⟩ ho (by omega)
    have hnew := cellsAt_new (X := X) hmy.2 (hmy.1.inPlus' HBL.out X)
    refine ⟨Plus X W.heap.size w1.heap.size, w1.heap.size, rfl, RSideAt.make (w := w) kg3 rfl rfl rfl HXG.out HBD.out (by omega) (by omega) hww ho.size (H4.out.plus hkeep) (H5.out.plus hkeep) hnew (fun x hx => by cases hx; rfl), Plus.gr (by omega) (Nat.le_refl _), ho.size, ho1.trans ho⟩

set_option maxHeartbeats 2000000 in
theorem rhear_kgeT (s : Side) (X : Nat → Prop) (g : Nat) (ch cy : Int) (I : In) (a : Option Addr) (cap : Nat) (w : World) (h : RSideAt w X g s) (hch : s.ch = 0 ∨ s.ch = 1) (hin : InAt w a cap I) (hcc : ch = 1 - s.ch) (hcy : s.cy < cy) (c : Int) (J : In) (hk : s.kept = some (c, J)) (hc : ¬ c < cy) (hB : (c == cy && J.same I) = true) :
    Calls Try.prog 18 #[.pointer (some ⟨g, 0, none⟩), .agg #[.int .i64 ch, .int .i64 cy, .int .u64 (I.o : Int), .int .u32 (I.n : Int), .int .u32 (I.r : Int), .slice a I.c.length cap]] w
      fun e w' => ∃ X' M, e = .returned (.int .i64 (s.hear ch cy I).2) ∧ RSideAt w' X' g (s.hear ch cy I).1 ∧ Gr X X' w.heap.size M ∧ M ≤ w'.heap.size ∧ Only g w w' := by
  have HP : Hid (s.hear ch cy I = (s, 0)) := Lib.hid (by unfold Side.hear; rw [if_neg (by simpa using hcc)]; rw [if_neg (show ¬ cy < s.cy by omega)]; rw [if_pos hcy]; rw [hk]; simp only []; rw [if_neg hc]; rw [if_pos (by simpa using hB)])
  have HS := Lib.hid h
  have hlt := h.lt
  obtain ⟨o0, o1, o2, o3, t0, t1, t2, t3, kc, ky, x0, x1, x2, x3, h1, hXg, hbd, h4, h5, h6, h7⟩ := unfold_rside h
  have H4 := Lib.hid h4
  have H5 := Lib.hid h5
  have H6 := Lib.hid h6
  have H7 := Lib.hid h7
  subst hcc
  rw [hk] at h1
  rw [hk] at h6
  obtain rfl : ky = .int .i64 c := h7 (c, J) hk
  unfold CellsAt at h6
  simp only [Option.map_some] at h6
  obtain ⟨aj, cj, rfl, rfl, rfl, rfl, hij, _⟩ := h6
  have HIJ := Lib.hid hij
  clear hij
  have m1 : wrap64 (1 - s.ch) = 1 - s.ch := by unfold wrap64; omega
  have m2 : IntKind.i64.wrap (1 - s.ch) = 1 - s.ch := by rw [IntWalk.i64_left]; exact m1
  have m3 : (1 - s.ch != 1 - s.ch) = false := by simp
  have m4 : (1 - s.ch == 1 - s.ch) = true := by simp
  have d1 : decide (cy < s.cy) = false := decide_eq_false (by omega)
  have d2 : decide (s.cy < cy) = true := decide_eq_true hcy
  have d3 : decide (cy > s.cy) = true := decide_eq_true hcy
  have d4 : decide (c < cy) = false := decide_eq_false hc
  have d5 : decide (cy > c) = false := decide_eq_false hc
  have HK := Lib.hid hk
  have HBB := Lib.hid hB
  have u1 : (cy == c) = true := by
    have : (c == cy) = true := by revert hB; cases (c == cy) <;> simp
    have := eq_of_beq this
    subst this
    simp
  have HSB : Hid (J.same I = true) := Lib.hid (by revert hB; cases J.same I <;> simp)
  have HXG := Lib.hid hXg
  have HBD := Lib.hid hbd
  clear h4 hbd hXg hch h7 h5 hcy hk hc hB
  go_enter Try.func18, Try.ntmps18
  go_wp2_with fail
  refine name_world ?_
  intro W hW
  have kr : W.heap[w.heap.size]? = some (.cells #[.int .i64 (1 - s.ch), .int .i64 cy, .int .u64 (I.o : Int), .int .u32 (I.n : Int), .int .u32 (I.r : Int), .slice a I.c.length cap] 43 (0, 0)) := by rw [hW]; exact heap_new1 _ _
  have hB0 : Below w.heap.size w W := by rw [hW]; exact below1 _ _
  have hWs : W.heap.size = w.heap.size + 1 := by rw [hW]; exact Array.size_push ..
  have kg := blk_keep hB0 h1
  have hinW := hin.below hB0
  have hij := HIJ.out.below hB0
  have r0 := blk_cell kr 0 _ rfl
  have r1 := blk_cell kr 1 _ rfl
  have r2 := blk_cell kr 2 _ rfl
  have r3 := blk_cell kr 3 _ rfl
  have r4 := blk_cell kr 4 _ rfl
  have r5 := blk_cell kr 5 _ rfl
  have g0 := blk_cell kg 0 _ rfl
  have g1 := blk_cell kg 1 _ rfl
  have g2 := blk_cell kg 2 _ rfl
  have g3 := blk_cell kg 3 _ rfl
  have g4 := blk_cell kg 4 _ rfl
  have g5 := blk_cell kg 5 _ rfl
  have g6 := blk_cell kg 6 _ rfl
  have g7 := blk_cell kg 7 _ rfl
  have g8 := blk_cell kg 8 _ rfl
  have g9 := blk_cell kg 9 _ rfl
  have g10 := blk_cell kg 10 _ rfl
  have g11 := blk_cell kg 11 _ rfl
  have g12 := blk_cell kg 12 _ rfl
  have g13 := blk_cell kg 13 _ rfl
  have g14 := blk_cell kg 14 _ rfl
  have g15 := blk_cell kg 15 _ rfl
  have g16 := blk_cell kg 16 _ rfl
  have g17 := blk_cell kg 17 _ rfl
  have g18 := blk_cell kg 18 _ rfl
  have g19 := blk_cell kg 19 _ rfl
  have fg := blk_free kg
  have HW := Lib.hid hWs
  obtain ⟨z, hz⟩ : ∃ z, z = w.heap.size := ⟨_, rfl⟩
  rw [← hz] at kr r0 r1 r2 r3 r4 r5 ⊢
  have HZ := Lib.hid hz
  have hzl := blk_lt kr
  have hgl := blk_lt kg
  have hgz : ¬ g = z := by omega
  have hzg : ¬ z = g := by omega
  clear hW hWs hz h1 hin
  go_quiet (fail)
  go_wp2_with fail
  go_quiet (fail)
  go_wp2_with fail
  go_quiet (fail)
  go_wp2_with fail
  go_quiet (fail)
  go_wp2_with fail
  refine name_world ?_
  intro W1 hW1
  have hB1 : Below w.heap.size w W1 := by rw [hW1]; repeat first | with_reducible exact hB0 | with_reducible refine below_drewN ?_ _
  have hB01 : Below W.heap.size W W1 := by rw [hW1]; repeat first | with_reducible exact Below.refl _ _ | with_reducible refine below_drewN ?_ _
  have kr := blk_keep hB01 kr
  have kg := blk_keep hB01 kg
  have hinW := hinW.below hB01
  have hij := hij.below hB01
  have c1 : ∀ w', Below W1.heap.size W1 w' → Calls Try.prog 22 #[.agg #[.int .u64 (I.o : Int), .int .u32 (I.n : Int), .int .u32 (I.r : Int), .slice a I.c.length cap], .agg #[.int .u64 (J.o : Int), .int .u32 (J.n : Int), .int .u32 (J.r : Int), .slice aj J.c.length cj]] w' fun e w'' => e = .returned (.bool true) ∧ Below W1.heap.size W1 w'' :=
    fun w' hw' => (refsame_in I J a aj cap cj w' (hinW.below hw') (hij.below hw')).mono (fun e w9 ⟨h1, h2⟩ => ⟨by rw [h1, In.same_comm]; simp [HSB.out], below_on hw' h2⟩)
  clear hW1 hB0 hB01
  clear g0 g1 g2 g3 g4 g5 g6 g7 g8 g9 g10 g11 g12 g13 g14 g15 g16 g17 g18 g19 r0 r1 r2 r3 r4 r5 fg
  refine wp_region_calm (by kernel_rfl) (by kernel_rfl) ?_
  repeat
    (with_reducible apply wpQuiet_step
     intro K hK
     go_simp
     first
       | (refine hK _ ?_; clear hK K)
       | (apply Exists.intro
          refine ⟨fun w' hw' => ?_, hK _ ?_⟩
          · (first
               | with_reducible exact c1 _ hw'
               | (
                  have kr' := blk_keep hw' kr
                  have kg' := blk_keep hw' kg
                  have r0 := blk_cell kr' 0 _ rfl
                  have r1 := blk_cell kr' 1 _ rfl
                  have r2 := blk_cell kr' 2 _ rfl
                  have r3 := blk_cell kr' 3 _ rfl
                  have r4 := blk_cell kr' 4 _ rfl
                  have r5 := blk_cell kr' 5 _ rfl
                  have g0 := blk_cell kg' 0 _ rfl
                  have g1 := blk_cell kg' 1 _ rfl
                  have g7 := blk_cell kg' 7 _ rfl
                  have g8 := blk_cell kg' 8 _ rfl
                  have g9 := blk_cell kg' 9 _ rfl
                  have g10 := blk_cell kg' 10 _ rfl
                  have g11 := blk_cell kg' 11 _ rfl
                  have g12 := blk_cell kg' 12 _ rfl
                  have g13 := blk_cell kg' 13 _ rfl
                  have g14 := blk_cell kg' 14 _ rfl
                  have g15 := blk_cell kg' 15 _ rfl
                  have g16 := blk_cell kg' 16 _ rfl
                  have g17 := blk_cell kg' 17 _ rfl
                  have g18 := blk_cell kg' 18 _ rfl
                  go_simp
                  first | done | exact rfl | exact ⟨rfl, rfl⟩ | exact c1 _ hw'))
          clear hK K))
  refine wpQuiet_nil ?_
  intro w1 hb1
  clear c1
  go_wp2_with fail
  go_ret
  rw [HP.out]
  have hB2 := below_on hB1 hb1
  exact ⟨X, w.heap.size, rfl, HS.out.below hB2, fun j hj => .inl hj, hB2.size, Only.of_below hB2⟩

set_option maxHeartbeats 2000000 in
theorem rhear_kgeF1 (s : Side) (X : Nat → Prop) (g : Nat) (ch cy : Int) (I : In) (a : Option Addr) (cap : Nat) (w : World) (h : RSideAt w X g s) (hch : s.ch = 0 ∨ s.ch = 1) (hin : InAt w a cap I) (hcc : ch = 1 - s.ch) (hcy : s.cy < cy) (c : Int) (J : In) (hk : s.kept = some (c, J)) (hc : ¬ c < cy) (hB : (c == cy && J.same I) = false) (hu : c = cy) :
    Calls Try.prog 18 #[.pointer (some ⟨g, 0, none⟩), .agg #[.int .i64 ch, .int .i64 cy, .int .u64 (I.o : Int), .int .u32 (I.n : Int), .int .u32 (I.r : Int), .slice a I.c.length cap]] w
      fun e w' => ∃ X' M, e = .returned (.int .i64 (s.hear ch cy I).2) ∧ RSideAt w' X' g (s.hear ch cy I).1 ∧ Gr X X' w.heap.size M ∧ M ≤ w'.heap.size ∧ Only g w w' := by
  have HP : Hid (s.hear ch cy I = (s, 4)) := Lib.hid (by unfold Side.hear; rw [if_neg (by simpa using hcc)]; rw [if_neg (show ¬ cy < s.cy by omega)]; rw [if_pos hcy]; rw [hk]; simp only []; rw [if_neg hc]; rw [if_neg (by simpa using hB)])
  have HS := Lib.hid h
  have hlt := h.lt
  obtain ⟨o0, o1, o2, o3, t0, t1, t2, t3, kc, ky, x0, x1, x2, x3, h1, hXg, hbd, h4, h5, h6, h7⟩ := unfold_rside h
  have H4 := Lib.hid h4
  have H5 := Lib.hid h5
  have H6 := Lib.hid h6
  have H7 := Lib.hid h7
  subst hcc
  rw [hk] at h1
  rw [hk] at h6
  obtain rfl : ky = .int .i64 c := h7 (c, J) hk
  unfold CellsAt at h6
  simp only [Option.map_some] at h6
  obtain ⟨aj, cj, rfl, rfl, rfl, rfl, hij, _⟩ := h6
  have HIJ := Lib.hid hij
  clear hij
  have m1 : wrap64 (1 - s.ch) = 1 - s.ch := by unfold wrap64; omega
  have m2 : IntKind.i64.wrap (1 - s.ch) = 1 - s.ch := by rw [IntWalk.i64_left]; exact m1
  have m3 : (1 - s.ch != 1 - s.ch) = false := by simp
  have m4 : (1 - s.ch == 1 - s.ch) = true := by simp
  have d1 : decide (cy < s.cy) = false := decide_eq_false (by omega)
  have d2 : decide (s.cy < cy) = true := decide_eq_true hcy
  have d3 : decide (cy > s.cy) = true := decide_eq_true hcy
  have d4 : decide (c < cy) = false := decide_eq_false hc
  have d5 : decide (cy > c) = false := decide_eq_false hc
  have HK := Lib.hid hk
  have HSB : Hid (J.same I = false) := Lib.hid (by revert hB; rw [show (c == cy) = true by simpa using hu]; simp)
  have u1 : (cy == c) = true := by subst hu; simp
  clear hu
  have HXG := Lib.hid hXg
  have HBD := Lib.hid hbd
  clear h4 hbd hXg hch h7 h5 hcy hk hc hB
  go_enter Try.func18, Try.ntmps18
  go_wp2_with fail
  refine name_world ?_
  intro W hW
  have kr : W.heap[w.heap.size]? = some (.cells #[.int .i64 (1 - s.ch), .int .i64 cy, .int .u64 (I.o : Int), .int .u32 (I.n : Int), .int .u32 (I.r : Int), .slice a I.c.length cap] 43 (0, 0)) := by rw [hW]; exact heap_new1 _ _
  have hB0 : Below w.heap.size w W := by rw [hW]; exact below1 _ _
  have hWs : W.heap.size = w.heap.size + 1 := by rw [hW]; exact Array.size_push ..
  have kg := blk_keep hB0 h1
  have hinW := hin.below hB0
  have hij := HIJ.out.below hB0
  have r0 := blk_cell kr 0 _ rfl
  have r1 := blk_cell kr 1 _ rfl
  have r2 := blk_cell kr 2 _ rfl
  have r3 := blk_cell kr 3 _ rfl
  have r4 := blk_cell kr 4 _ rfl
  have r5 := blk_cell kr 5 _ rfl
  have g0 := blk_cell kg 0 _ rfl
  have g1 := blk_cell kg 1 _ rfl
  have g2 := blk_cell kg 2 _ rfl
  have g3 := blk_cell kg 3 _ rfl
  have g4 := blk_cell kg 4 _ rfl
  have g5 := blk_cell kg 5 _ rfl
  have g6 := blk_cell kg 6 _ rfl
  have g7 := blk_cell kg 7 _ rfl
  have g8 := blk_cell kg 8 _ rfl
  have g9 := blk_cell kg 9 _ rfl
  have g10 := blk_cell kg 10 _ rfl
  have g11 := blk_cell kg 11 _ rfl
  have g12 := blk_cell kg 12 _ rfl
  have g13 := blk_cell kg 13 _ rfl
  have g14 := blk_cell kg 14 _ rfl
  have g15 := blk_cell kg 15 _ rfl
  have g16 := blk_cell kg 16 _ rfl
  have g17 := blk_cell kg 17 _ rfl
  have g18 := blk_cell kg 18 _ rfl
  have g19 := blk_cell kg 19 _ rfl
  have fg := blk_free kg
  have HW := Lib.hid hWs
  obtain ⟨z, hz⟩ : ∃ z, z = w.heap.size := ⟨_, rfl⟩
  rw [← hz] at kr r0 r1 r2 r3 r4 r5 ⊢
  have HZ := Lib.hid hz
  have hzl := blk_lt kr
  have hgl := blk_lt kg
  have hgz : ¬ g = z := by omega
  have hzg : ¬ z = g := by omega
  clear hW hWs hz h1 hin
  go_quiet (fail)
  go_wp2_with fail
  go_quiet (fail)
  go_wp2_with fail
  go_quiet (fail)
  go_wp2_with fail
  go_quiet (fail)
  go_wp2_with fail
  refine name_world ?_
  intro W1 hW1
  have hB1 : Below w.heap.size w W1 := by rw [hW1]; repeat first | with_reducible exact hB0 | with_reducible refine below_drewN ?_ _
  have hB01 : Below W.heap.size W W1 := by rw [hW1]; repeat first | with_reducible exact Below.refl _ _ | with_reducible refine below_drewN ?_ _
  have kr := blk_keep hB01 kr
  have kg := blk_keep hB01 kg
  have hinW := hinW.below hB01
  have hij := hij.below hB01
  have c1 : ∀ w', Below W1.heap.size W1 w' → Calls Try.prog 22 #[.agg #[.int .u64 (I.o : Int), .int .u32 (I.n : Int), .int .u32 (I.r : Int), .slice a I.c.length cap], .agg #[.int .u64 (J.o : Int), .int .u32 (J.n : Int), .int .u32 (J.r : Int), .slice aj J.c.length cj]] w' fun e w'' => e = .returned (.bool false) ∧ Below W1.heap.size W1 w'' :=
    fun w' hw' => (refsame_in I J a aj cap cj w' (hinW.below hw') (hij.below hw')).mono (fun e w9 ⟨h1, h2⟩ => ⟨by rw [h1, In.same_comm]; simp [HSB.out], below_on hw' h2⟩)
  clear hW1 hB0 hB01
  clear g0 g1 g2 g3 g4 g5 g6 g7 g8 g9 g10 g11 g12 g13 g14 g15 g16 g17 g18 g19 r0 r1 r2 r3 r4 r5 fg
  refine wp_region_calm (by kernel_rfl) (by kernel_rfl) ?_
  repeat
    (with_reducible apply wpQuiet_step
     intro K hK
     go_simp
     first
       | (refine hK _ ?_; clear hK K)
       | (apply Exists.intro
          refine ⟨fun w' hw' => ?_, hK _ ?_⟩
          · (first
               | with_reducible exact c1 _ hw'
               | (
                  have kr' := blk_keep hw' kr
                  have kg' := blk_keep hw' kg
                  have r0 := blk_cell kr' 0 _ rfl
                  have r1 := blk_cell kr' 1 _ rfl
                  have r2 := blk_cell kr' 2 _ rfl
                  have r3 := blk_cell kr' 3 _ rfl
                  have r4 := blk_cell kr' 4 _ rfl
                  have r5 := blk_cell kr' 5 _ rfl
                  have g0 := blk_cell kg' 0 _ rfl
                  have g1 := blk_cell kg' 1 _ rfl
                  have g7 := blk_cell kg' 7 _ rfl
                  have g8 := blk_cell kg' 8 _ rfl
                  have g9 := blk_cell kg' 9 _ rfl
                  have g10 := blk_cell kg' 10 _ rfl
                  have g11 := blk_cell kg' 11 _ rfl
                  have g12 := blk_cell kg' 12 _ rfl
                  have g13 := blk_cell kg' 13 _ rfl
                  have g14 := blk_cell kg' 14 _ rfl
                  have g15 := blk_cell kg' 15 _ rfl
                  have g16 := blk_cell kg' 16 _ rfl
                  have g17 := blk_cell kg' 17 _ rfl
                  have g18 := blk_cell kg' 18 _ rfl
                  go_simp
                  first | done | exact rfl | exact ⟨rfl, rfl⟩ | exact c1 _ hw'))
          clear hK K))
  refine wpQuiet_nil ?_
  intro w1 hb1
  clear c1
  go_wp2_with fail
  go_ret
  rw [HP.out]
  have hB2 := below_on hB1 hb1
  exact ⟨X, w.heap.size, rfl, HS.out.below hB2, fun j hj => .inl hj, hB2.size, Only.of_below hB2⟩

set_option maxHeartbeats 2000000 in
theorem rhear_kgeF2 (s : Side) (X : Nat → Prop) (g : Nat) (ch cy : Int) (I : In) (a : Option Addr) (cap : Nat) (w : World) (h : RSideAt w X g s) (hch : s.ch = 0 ∨ s.ch = 1) (hin : InAt w a cap I) (hcc : ch = 1 - s.ch) (hcy : s.cy < cy) (c : Int) (J : In) (hk : s.kept = some (c, J)) (hc : ¬ c < cy) (hB : (c == cy && J.same I) = false) (hu : ¬ c = cy) :
    Calls Try.prog 18 #[.pointer (some ⟨g, 0, none⟩), .agg #[.int .i64 ch, .int .i64 cy, .int .u64 (I.o : Int), .int .u32 (I.n : Int), .int .u32 (I.r : Int), .slice a I.c.length cap]] w
      fun e w' => ∃ X' M, e = .returned (.int .i64 (s.hear ch cy I).2) ∧ RSideAt w' X' g (s.hear ch cy I).1 ∧ Gr X X' w.heap.size M ∧ M ≤ w'.heap.size ∧ Only g w w' := by
  have HP : Hid (s.hear ch cy I = (s, 4)) := Lib.hid (by unfold Side.hear; rw [if_neg (by simpa using hcc)]; rw [if_neg (show ¬ cy < s.cy by omega)]; rw [if_pos hcy]; rw [hk]; simp only []; rw [if_neg hc]; rw [if_neg (by simpa using hB)])
  have HS := Lib.hid h
  have hlt := h.lt
  obtain ⟨o0, o1, o2, o3, t0, t1, t2, t3, kc, ky, x0, x1, x2, x3, h1, hXg, hbd, h4, h5, h6, h7⟩ := unfold_rside h
  have H4 := Lib.hid h4
  have H5 := Lib.hid h5
  have H6 := Lib.hid h6
  have H7 := Lib.hid h7
  subst hcc
  rw [hk] at h1
  rw [hk] at h6
  obtain rfl : ky = .int .i64 c := h7 (c, J) hk
  unfold CellsAt at h6
  simp only [Option.map_some] at h6
  obtain ⟨aj, cj, rfl, rfl, rfl, rfl, hij, _⟩ := h6
  have HIJ := Lib.hid hij
  clear hij
  have m1 : wrap64 (1 - s.ch) = 1 - s.ch := by unfold wrap64; omega
  have m2 : IntKind.i64.wrap (1 - s.ch) = 1 - s.ch := by rw [IntWalk.i64_left]; exact m1
  have m3 : (1 - s.ch != 1 - s.ch) = false := by simp
  have m4 : (1 - s.ch == 1 - s.ch) = true := by simp
  have d1 : decide (cy < s.cy) = false := decide_eq_false (by omega)
  have d2 : decide (s.cy < cy) = true := decide_eq_true hcy
  have d3 : decide (cy > s.cy) = true := decide_eq_true hcy
  have d4 : decide (c < cy) = false := decide_eq_false hc
  have d5 : decide (cy > c) = false := decide_eq_false hc
  have HK := Lib.hid hk
  have u1 : (cy == c) = false := by simpa using fun e : cy = c => hu e.symm
  clear hu
  have HXG := Lib.hid hXg
  have HBD := Lib.hid hbd
  clear h4 hbd hXg hch h7 h5 hcy hk hc hB
  go_enter Try.func18, Try.ntmps18
  go_wp2_with fail
  refine name_world ?_
  intro W hW
  have kr : W.heap[w.heap.size]? = some (.cells #[.int .i64 (1 - s.ch), .int .i64 cy, .int .u64 (I.o : Int), .int .u32 (I.n : Int), .int .u32 (I.r : Int), .slice a I.c.length cap] 43 (0, 0)) := by rw [hW]; exact heap_new1 _ _
  have hB0 : Below w.heap.size w W := by rw [hW]; exact below1 _ _
  have hWs : W.heap.size = w.heap.size + 1 := by rw [hW]; exact Array.size_push ..
  have kg := blk_keep hB0 h1
  have hinW := hin.below hB0
  have hij := HIJ.out.below hB0
  have r0 := blk_cell kr 0 _ rfl
  have r1 := blk_cell kr 1 _ rfl
  have r2 := blk_cell kr 2 _ rfl
  have r3 := blk_cell kr 3 _ rfl
  have r4 := blk_cell kr 4 _ rfl
  have r5 := blk_cell kr 5 _ rfl
  have g0 := blk_cell kg 0 _ rfl
  have g1 := blk_cell kg 1 _ rfl
  have g2 := blk_cell kg 2 _ rfl
  have g3 := blk_cell kg 3 _ rfl
  have g4 := blk_cell kg 4 _ rfl
  have g5 := blk_cell kg 5 _ rfl
  have g6 := blk_cell kg 6 _ rfl
  have g7 := blk_cell kg 7 _ rfl
  have g8 := blk_cell kg 8 _ rfl
  have g9 := blk_cell kg 9 _ rfl
  have g10 := blk_cell kg 10 _ rfl
  have g11 := blk_cell kg 11 _ rfl
  have g12 := blk_cell kg 12 _ rfl
  have g13 := blk_cell kg 13 _ rfl
  have g14 := blk_cell kg 14 _ rfl
  have g15 := blk_cell kg 15 _ rfl
  have g16 := blk_cell kg 16 _ rfl
  have g17 := blk_cell kg 17 _ rfl
  have g18 := blk_cell kg 18 _ rfl
  have g19 := blk_cell kg 19 _ rfl
  have fg := blk_free kg
  have HW := Lib.hid hWs
  obtain ⟨z, hz⟩ : ∃ z, z = w.heap.size := ⟨_, rfl⟩
  rw [← hz] at kr r0 r1 r2 r3 r4 r5 ⊢
  have HZ := Lib.hid hz
  have hzl := blk_lt kr
  have hgl := blk_lt kg
  have hgz : ¬ g = z := by omega
  have hzg : ¬ z = g := by omega
  clear hW hWs hz h1 hin
  go_quiet (fail)
  go_wp2_with fail
  go_quiet (fail)
  go_wp2_with fail
  go_quiet (fail)
  go_wp2_with fail
  go_quiet (fail)
  go_wp2_with fail
  refine name_world ?_
  intro W1 hW1
  have hB1 : Below w.heap.size w W1 := by rw [hW1]; repeat first | with_reducible exact hB0 | with_reducible refine below_drewN ?_ _
  have hB01 : Below W.heap.size W W1 := by rw [hW1]; repeat first | with_reducible exact Below.refl _ _ | with_reducible refine below_drewN ?_ _
  have kr := blk_keep hB01 kr
  have kg := blk_keep hB01 kg
  have hinW := hinW.below hB01
  have hij := hij.below hB01
  have c1 : True := trivial
  clear hW1 hB0 hB01
  clear g0 g1 g2 g3 g4 g5 g6 g7 g8 g9 g10 g11 g12 g13 g14 g15 g16 g17 g18 g19 r0 r1 r2 r3 r4 r5 fg
  have r0 := blk_cell kr 0 _ rfl
  have r1 := blk_cell kr 1 _ rfl
  have r2 := blk_cell kr 2 _ rfl
  have r3 := blk_cell kr 3 _ rfl
  have r4 := blk_cell kr 4 _ rfl
  have r5 := blk_cell kr 5 _ rfl
  have g0 := blk_cell kg 0 _ rfl
  have g1 := blk_cell kg 1 _ rfl
  have g13 := blk_cell kg 13 _ rfl
  have g14 := blk_cell kg 14 _ rfl
  go_quiet (fail)
  have hb1 := fun n => below_drewN (Below.refl W1.heap.size W1) n
  clear c1
  go_wp2_with fail
  go_ret
  rw [HP.out]
  have hB2 := fun n => below_on hB1 (hb1 n)
  exact ⟨X, w.heap.size, rfl, HS.out.below (hB2 _), fun j hj => .inl hj, (hB2 _).size, Only.of_below (hB2 _)⟩

set_option maxHeartbeats 2000000 in
theorem rhear_onone (s : Side) (X : Nat → Prop) (g : Nat) (ch cy : Int) (I : In) (a : Option Addr) (cap : Nat) (w : World) (h : RSideAt w X g s) (hch : s.ch = 0 ∨ s.ch = 1) (hin : InAt w a cap I) (hag : I.c ≠ [] → ¬ Blk a g) (hcc : ch = 1 - s.ch) (hcy : cy = s.cy) (hk : s.other = none) :
    Calls Try.prog 18 #[.pointer (some ⟨g, 0, none⟩), .agg #[.int .i64 ch, .int .i64 cy, .int .u64 (I.o : Int), .int .u32 (I.n : Int), .int .u32 (I.r : Int), .slice a I.c.length cap]] w
      fun e w' => ∃ X' M, e = .returned (.int .i64 (s.hear ch cy I).2) ∧ RSideAt w' X' g (s.hear ch cy I).1 ∧ Gr X X' w.heap.size M ∧ M ≤ w'.heap.size ∧ Only g w w' := by
  have HAG := Lib.hid hag
  clear hag
  have HP : Hid (s.hear ch cy I = (⟨s.ch, s.cy, s.own, some I, s.kept, s.broken⟩, 0)) := Lib.hid (by unfold Side.hear; rw [if_neg (by simpa using hcc)]; rw [if_neg (show ¬ cy < s.cy by omega)]; rw [if_neg (show ¬ s.cy < cy by omega)]; rw [hk])
  have HS := Lib.hid h
  have hlt := h.lt
  obtain ⟨o0, o1, o2, o3, t0, t1, t2, t3, kc, ky, x0, x1, x2, x3, h1, hXg, hbd, h4, h5, h6, h7⟩ := unfold_rside h
  have H4 := Lib.hid h4
  have H5 := Lib.hid h5
  have H6 := Lib.hid h6
  have H7 := Lib.hid h7
  subst hcc
  rw [hk] at h1
  have m1 : wrap64 (1 - s.ch) = 1 - s.ch := by unfold wrap64; omega
  have m2 : IntKind.i64.wrap (1 - s.ch) = 1 - s.ch := by rw [IntWalk.i64_left]; exact m1
  have m3 : (1 - s.ch != 1 - s.ch) = false := by simp
  have m4 : (1 - s.ch == 1 - s.ch) = true := by simp
  subst hcy
  have d1 : decide (s.cy < s.cy) = false := decide_eq_false (by omega)
  have d3 : decide (s.cy > s.cy) = false := decide_eq_false (by omega)
  have HK := Lib.hid hk
  have HXG := Lib.hid hXg
  have HBD := Lib.hid hbd
  clear h4 hbd hXg hch h7 h5 h6 hk
  go_enter Try.func18, Try.ntmps18
  go_wp2_with fail
  refine name_world ?_
  intro W hW
  have kr : W.heap[w.heap.size]? = some (.cells #[.int .i64 (1 - s.ch), .int .i64 s.cy, .int .u64 (I.o : Int), .int .u32 (I.n : Int), .int .u32 (I.r : Int), .slice a I.c.length cap] 43 (0, 0)) := by rw [hW]; exact heap_new1 _ _
  have hB0 : Below w.heap.size w W := by rw [hW]; exact below1 _ _
  have hWs : W.heap.size = w.heap.size + 1 := by rw [hW]; exact Array.size_push ..
  have kg := blk_keep hB0 h1
  have hinW := hin.below hB0
  have r0 := blk_cell kr 0 _ rfl
  have r1 := blk_cell kr 1 _ rfl
  have r2 := blk_cell kr 2 _ rfl
  have r3 := blk_cell kr 3 _ rfl
  have r4 := blk_cell kr 4 _ rfl
  have r5 := blk_cell kr 5 _ rfl
  have g0 := blk_cell kg 0 _ rfl
  have g1 := blk_cell kg 1 _ rfl
  have g2 := blk_cell kg 2 _ rfl
  have g3 := blk_cell kg 3 _ rfl
  have g4 := blk_cell kg 4 _ rfl
  have g5 := blk_cell kg 5 _ rfl
  have g6 := blk_cell kg 6 _ rfl
  have g7 := blk_cell kg 7 _ rfl
  have g8 := blk_cell kg 8 _ rfl
  have g9 := blk_cell kg 9 _ rfl
  have g10 := blk_cell kg 10 _ rfl
  have g11 := blk_cell kg 11 _ rfl
  have g12 := blk_cell kg 12 _ rfl
  have g13 := blk_cell kg 13 _ rfl
  have g14 := blk_cell kg 14 _ rfl
  have g15 := blk_cell kg 15 _ rfl
  have g16 := blk_cell kg 16 _ rfl
  have g17 := blk_cell kg 17 _ rfl
  have g18 := blk_cell kg 18 _ rfl
  have g19 := blk_cell kg 19 _ rfl
  have fg := blk_free kg
  have HW := Lib.hid hWs
  obtain ⟨z, hz⟩ : ∃ z, z = w.heap.size := ⟨_, rfl⟩
  rw [← hz] at kr r0 r1 r2 r3 r4 r5 ⊢
  have HZ := Lib.hid hz
  have hzl := blk_lt kr
  have hgl := blk_lt kg
  have hgz : ¬ g = z := by omega
  have hzg : ¬ z = g := by omega
  clear hW hWs hz h1 hin
  go_quiet (fail)
  go_wp2_with fail
  go_quiet (fail)
  go_wp2_with fail
  go_quiet (fail)
  go_wp2_with fail
  refine name_calls ?_
  intro W1 hW1
  have kg1 : W1.heap[g]? = some (.cells #[.int .i64 s.ch, .int .i64 s.cy, .bool s.own.isSome, o0, o1, o2, o3, .bool true, t0, t1, t2, t3, .bool s.kept.isSome, kc, ky, x0, x1, x2, x3, .bool s.broken] 56 (0, 0)) := by rw [hW1]; exact blk_set (blk_drewN kg _) 7 _
  have ho1 : Only g w W1 := by
    rw [hW1]; exact ((Only.of_below hB0).drewN _).setCell (p := ⟨g, 7, none⟩) rfl _
  have hin1 : InAt W1 a cap I := by
    rw [hW1]
    exact (hinW.below (below_drewN (Below.refl _ _) _)).only HAG.out ((Only.refl g _).setCell (p := ⟨g, 7, none⟩) rfl _)
  have hW1s : W1.heap.size = W.heap.size := by rw [hW1]; exact World.size_setCell _ _ _
  clear hW1 hB0
  clear g0 g1 g2 g3 g4 g5 g6 g7 g8 g9 g10 g11 g12 g13 g14 g15 g16 g17 g18 g19 r0 r1 r2 r3 r4 r5 fg
  refine (copied_is I a cap W1 hin1).mono ?_
  rintro e w1 ⟨a1, c1, rfl, hm1, hi1, hb1⟩
  have kg2 := blk_keep hb1 kg1
  have g0 := blk_cell kg2 0 _ rfl
  have g1 := blk_cell kg2 1 _ rfl
  have g2 := blk_cell kg2 2 _ rfl
  have g3 := blk_cell kg2 3 _ rfl
  have g4 := blk_cell kg2 4 _ rfl
  have g5 := blk_cell kg2 5 _ rfl
  have g6 := blk_cell kg2 6 _ rfl
  have g7 := blk_cell kg2 7 _ rfl
  have g8 := blk_cell kg2 8 _ rfl
  have g9 := blk_cell kg2 9 _ rfl
  have g10 := blk_cell kg2 10 _ rfl
  have g11 := blk_cell kg2 11 _ rfl
  have g12 := blk_cell kg2 12 _ rfl
  have g13 := blk_cell kg2 13 _ rfl
  have g14 := blk_cell kg2 14 _ rfl
  have g15 := blk_cell kg2 15 _ rfl
  have g16 := blk_cell kg2 16 _ rfl
  have g17 := blk_cell kg2 17 _ rfl
  have g18 := blk_cell kg2 18 _ rfl
  have g19 := blk_cell kg2 19 _ rfl
  have fg := blk_free kg2
  have ho1 := ho1.trans (Only.of_below hb1)
  have HBL := Lib.hid (fun k hk => (hm1.blk (k := k) hk).2)
  have HWW := Lib.hid (Nat.le_trans (Nat.le_of_eq hW1s.symm) hb1.size)
  have hm1 := hm1.mono (Nat.le_of_eq hW1s.symm)
  clear hb1 kg1 hW1s
  go_wp2_with fail
  go_ret
  rw [HP.out]
  obtain ⟨kg3, ho⟩ := rset4 kg2 (.int .u64 (I.o : Int)) (.int .u32 (I.n : Int)) (.int .u32 (I.r : Int)) (.slice a1 I.c.length c1)
  have hkeep := fun j (hj : X j) => (ho1.trans ho).block j (HBD.out j hj) (by rintro rfl; exact HXG.out hj)
  have hw := HW.out
  have hww := HWW.out
  have hmy := my_only ⟨hm1, hi1⟩ ho (by omega)
  have hnew := cellsAt_new (X := X) hmy.2 (hmy.1.inPlus' HBL.out X)
  refine ⟨Plus X W.heap.size w1.heap.size, w1.heap.size, rfl, RSideAt.make (w := w) kg3 rfl rfl rfl HXG.out HBD.out (by omega) (by omega) hww ho.size (H4.out.plus hkeep) hnew (H6.out.plus hkeep) H7.out, Plus.gr (by omega) (Nat.le_refl _), ho.size, ho1.trans ho⟩

set_option maxHeartbeats 2000000 in
theorem rhear_oT (s : Side) (X : Nat → Prop) (g : Nat) (ch cy : Int) (I : In) (a : Option Addr) (cap : Nat) (w : World) (h : RSideAt w X g s) (hch : s.ch = 0 ∨ s.ch = 1) (hin : InAt w a cap I) (hcc : ch = 1 - s.ch) (hcy : cy = s.cy) (J : In) (hk : s.other = some J) (hB : J.same I = true) :
    Calls Try.prog 18 #[.pointer (some ⟨g, 0, none⟩), .agg #[.int .i64 ch, .int .i64 cy, .int .u64 (I.o : Int), .int .u32 (I.n : Int), .int .u32 (I.r : Int), .slice a I.c.length cap]] w
      fun e w' => ∃ X' M, e = .returned (.int .i64 (s.hear ch cy I).2) ∧ RSideAt w' X' g (s.hear ch cy I).1 ∧ Gr X X' w.heap.size M ∧ M ≤ w'.heap.size ∧ Only g w w' := by
  have HP : Hid (s.hear ch cy I = (s, 0)) := Lib.hid (by unfold Side.hear; rw [if_neg (by simpa using hcc)]; rw [if_neg (show ¬ cy < s.cy by omega)]; rw [if_neg (show ¬ s.cy < cy by omega)]; rw [hk]; simp only []; rw [if_pos hB])
  have HS := Lib.hid h
  have hlt := h.lt
  obtain ⟨o0, o1, o2, o3, t0, t1, t2, t3, kc, ky, x0, x1, x2, x3, h1, hXg, hbd, h4, h5, h6, h7⟩ := unfold_rside h
  have H4 := Lib.hid h4
  have H5 := Lib.hid h5
  have H6 := Lib.hid h6
  have H7 := Lib.hid h7
  subst hcc
  rw [hk] at h1
  rw [hk] at h5
  unfold CellsAt at h5
  simp only [] at h5
  obtain ⟨aj, cj, rfl, rfl, rfl, rfl, hij, _⟩ := h5
  have HIJ := Lib.hid hij
  clear hij
  have m1 : wrap64 (1 - s.ch) = 1 - s.ch := by unfold wrap64; omega
  have m2 : IntKind.i64.wrap (1 - s.ch) = 1 - s.ch := by rw [IntWalk.i64_left]; exact m1
  have m3 : (1 - s.ch != 1 - s.ch) = false := by simp
  have m4 : (1 - s.ch == 1 - s.ch) = true := by simp
  subst hcy
  have d1 : decide (s.cy < s.cy) = false := decide_eq_false (by omega)
  have d3 : decide (s.cy > s.cy) = false := decide_eq_false (by omega)
  have HK := Lib.hid hk
  have HSB : Hid (J.same I = true) := Lib.hid hB
  have HXG := Lib.hid hXg
  have HBD := Lib.hid hbd
  clear h4 hbd hXg hch h7 h6 hk hB
  go_enter Try.func18, Try.ntmps18
  go_wp2_with fail
  refine name_world ?_
  intro W hW
  have kr : W.heap[w.heap.size]? = some (.cells #[.int .i64 (1 - s.ch), .int .i64 s.cy, .int .u64 (I.o : Int), .int .u32 (I.n : Int), .int .u32 (I.r : Int), .slice a I.c.length cap] 43 (0, 0)) := by rw [hW]; exact heap_new1 _ _
  have hB0 : Below w.heap.size w W := by rw [hW]; exact below1 _ _
  have hWs : W.heap.size = w.heap.size + 1 := by rw [hW]; exact Array.size_push ..
  have kg := blk_keep hB0 h1
  have hinW := hin.below hB0
  have hij := HIJ.out.below hB0
  have r0 := blk_cell kr 0 _ rfl
  have r1 := blk_cell kr 1 _ rfl
  have r2 := blk_cell kr 2 _ rfl
  have r3 := blk_cell kr 3 _ rfl
  have r4 := blk_cell kr 4 _ rfl
  have r5 := blk_cell kr 5 _ rfl
  have g0 := blk_cell kg 0 _ rfl
  have g1 := blk_cell kg 1 _ rfl
  have g2 := blk_cell kg 2 _ rfl
  have g3 := blk_cell kg 3 _ rfl
  have g4 := blk_cell kg 4 _ rfl
  have g5 := blk_cell kg 5 _ rfl
  have g6 := blk_cell kg 6 _ rfl
  have g7 := blk_cell kg 7 _ rfl
  have g8 := blk_cell kg 8 _ rfl
  have g9 := blk_cell kg 9 _ rfl
  have g10 := blk_cell kg 10 _ rfl
  have g11 := blk_cell kg 11 _ rfl
  have g12 := blk_cell kg 12 _ rfl
  have g13 := blk_cell kg 13 _ rfl
  have g14 := blk_cell kg 14 _ rfl
  have g15 := blk_cell kg 15 _ rfl
  have g16 := blk_cell kg 16 _ rfl
  have g17 := blk_cell kg 17 _ rfl
  have g18 := blk_cell kg 18 _ rfl
  have g19 := blk_cell kg 19 _ rfl
  have fg := blk_free kg
  have HW := Lib.hid hWs
  obtain ⟨z, hz⟩ : ∃ z, z = w.heap.size := ⟨_, rfl⟩
  rw [← hz] at kr r0 r1 r2 r3 r4 r5 ⊢
  have HZ := Lib.hid hz
  have hzl := blk_lt kr
  have hgl := blk_lt kg
  have hgz : ¬ g = z := by omega
  have hzg : ¬ z = g := by omega
  clear hW hWs hz h1 hin
  go_quiet (fail)
  go_wp2_with fail
  go_quiet (fail)
  go_wp2_with fail
  go_quiet (fail)
  go_wp2_with fail
  refine name_world ?_
  intro W1 hW1
  have hB1 : Below w.heap.size w W1 := by rw [hW1]; repeat first | with_reducible exact hB0 | with_reducible refine below_drewN ?_ _
  have hB01 : Below W.heap.size W W1 := by rw [hW1]; repeat first | with_reducible exact Below.refl _ _ | with_reducible refine below_drewN ?_ _
  have kr := blk_keep hB01 kr
  have kg := blk_keep hB01 kg
  have hinW := hinW.below hB01
  have hij := hij.below hB01
  have c1 : ∀ w', Below W1.heap.size W1 w' → Calls Try.prog 22 #[.agg #[.int .u64 (I.o : Int), .int .u32 (I.n : Int), .int .u32 (I.r : Int), .slice a I.c.length cap], .agg #[.int .u64 (J.o : Int), .int .u32 (J.n : Int), .int .u32 (J.r : Int), .slice aj J.c.length cj]] w' fun e w'' => e = .returned (.bool true) ∧ Below W1.heap.size W1 w'' :=
    fun w' hw' => (refsame_in I J a aj cap cj w' (hinW.below hw') (hij.below hw')).mono (fun e w9 ⟨h1, h2⟩ => ⟨by rw [h1, In.same_comm]; simp [HSB.out], below_on hw' h2⟩)
  clear hW1 hB0 hB01
  clear g0 g1 g2 g3 g4 g5 g6 g7 g8 g9 g10 g11 g12 g13 g14 g15 g16 g17 g18 g19 r0 r1 r2 r3 r4 r5 fg
  refine wp_region_calm (by kernel_rfl) (by kernel_rfl) ?_
  repeat
    (with_reducible apply wpQuiet_step
     intro K hK
     go_simp
     first
       | (refine hK _ ?_; clear hK K)
       | (apply Exists.intro
          refine ⟨fun w' hw' => ?_, hK _ ?_⟩
          · (first
               | with_reducible exact c1 _ hw'
               | (
                  have kr' := blk_keep hw' kr
                  have kg' := blk_keep hw' kg
                  have r0 := blk_cell kr' 0 _ rfl
                  have r1 := blk_cell kr' 1 _ rfl
                  have r2 := blk_cell kr' 2 _ rfl
                  have r3 := blk_cell kr' 3 _ rfl
                  have r4 := blk_cell kr' 4 _ rfl
                  have r5 := blk_cell kr' 5 _ rfl
                  have g0 := blk_cell kg' 0 _ rfl
                  have g1 := blk_cell kg' 1 _ rfl
                  have g7 := blk_cell kg' 7 _ rfl
                  have g8 := blk_cell kg' 8 _ rfl
                  have g9 := blk_cell kg' 9 _ rfl
                  have g10 := blk_cell kg' 10 _ rfl
                  have g11 := blk_cell kg' 11 _ rfl
                  have g12 := blk_cell kg' 12 _ rfl
                  have g13 := blk_cell kg' 13 _ rfl
                  have g14 := blk_cell kg' 14 _ rfl
                  have g15 := blk_cell kg' 15 _ rfl
                  have g16 := blk_cell kg' 16 _ rfl
                  have g17 := blk_cell kg' 17 _ rfl
                  have g18 := blk_cell kg' 18 _ rfl
                  go_simp
                  first | done | exact rfl | exact ⟨rfl, rfl⟩ | exact c1 _ hw'))
          clear hK K))
  refine wpQuiet_nil ?_
  intro w1 hb1
  clear c1
  go_wp2_with fail
  go_ret
  rw [HP.out]
  have hB2 := below_on hB1 hb1
  exact ⟨X, w.heap.size, rfl, HS.out.below hB2, fun j hj => .inl hj, hB2.size, Only.of_below hB2⟩

set_option maxHeartbeats 2000000 in
theorem rhear_oF (s : Side) (X : Nat → Prop) (g : Nat) (ch cy : Int) (I : In) (a : Option Addr) (cap : Nat) (w : World) (h : RSideAt w X g s) (hch : s.ch = 0 ∨ s.ch = 1) (hin : InAt w a cap I) (hcc : ch = 1 - s.ch) (hcy : cy = s.cy) (J : In) (hk : s.other = some J) (hB : J.same I = false) :
    Calls Try.prog 18 #[.pointer (some ⟨g, 0, none⟩), .agg #[.int .i64 ch, .int .i64 cy, .int .u64 (I.o : Int), .int .u32 (I.n : Int), .int .u32 (I.r : Int), .slice a I.c.length cap]] w
      fun e w' => ∃ X' M, e = .returned (.int .i64 (s.hear ch cy I).2) ∧ RSideAt w' X' g (s.hear ch cy I).1 ∧ Gr X X' w.heap.size M ∧ M ≤ w'.heap.size ∧ Only g w w' := by
  have HP : Hid (s.hear ch cy I = (⟨s.ch, s.cy, s.own, s.other, s.kept, true⟩, 4)) := Lib.hid (by unfold Side.hear; rw [if_neg (by simpa using hcc)]; rw [if_neg (show ¬ cy < s.cy by omega)]; rw [if_neg (show ¬ s.cy < cy by omega)]; rw [hk]; simp only []; rw [if_neg (by simp [hB])])
  have HS := Lib.hid h
  have hlt := h.lt
  obtain ⟨o0, o1, o2, o3, t0, t1, t2, t3, kc, ky, x0, x1, x2, x3, h1, hXg, hbd, h4, h5, h6, h7⟩ := unfold_rside h
  have H4 := Lib.hid h4
  have H5 := Lib.hid h5
  have H6 := Lib.hid h6
  have H7 := Lib.hid h7
  subst hcc
  rw [hk] at h1
  rw [hk] at h5
  unfold CellsAt at h5
  simp only [] at h5
  obtain ⟨aj, cj, rfl, rfl, rfl, rfl, hij, _⟩ := h5
  have HIJ := Lib.hid hij
  clear hij
  have m1 : wrap64 (1 - s.ch) = 1 - s.ch := by unfold wrap64; omega
  have m2 : IntKind.i64.wrap (1 - s.ch) = 1 - s.ch := by rw [IntWalk.i64_left]; exact m1
  have m3 : (1 - s.ch != 1 - s.ch) = false := by simp
  have m4 : (1 - s.ch == 1 - s.ch) = true := by simp
  subst hcy
  have d1 : decide (s.cy < s.cy) = false := decide_eq_false (by omega)
  have d3 : decide (s.cy > s.cy) = false := decide_eq_false (by omega)
  have HK := Lib.hid hk
  have HSB : Hid (J.same I = false) := Lib.hid hB
  have HXG := Lib.hid hXg
  have HBD := Lib.hid hbd
  clear h4 hbd hXg hch h7 h6 hk hB
  go_enter Try.func18, Try.ntmps18
  go_wp2_with fail
  refine name_world ?_
  intro W hW
  have kr : W.heap[w.heap.size]? = some (.cells #[.int .i64 (1 - s.ch), .int .i64 s.cy, .int .u64 (I.o : Int), .int .u32 (I.n : Int), .int .u32 (I.r : Int), .slice a I.c.length cap] 43 (0, 0)) := by rw [hW]; exact heap_new1 _ _
  have hB0 : Below w.heap.size w W := by rw [hW]; exact below1 _ _
  have hWs : W.heap.size = w.heap.size + 1 := by rw [hW]; exact Array.size_push ..
  have kg := blk_keep hB0 h1
  have hinW := hin.below hB0
  have hij := HIJ.out.below hB0
  have r0 := blk_cell kr 0 _ rfl
  have r1 := blk_cell kr 1 _ rfl
  have r2 := blk_cell kr 2 _ rfl
  have r3 := blk_cell kr 3 _ rfl
  have r4 := blk_cell kr 4 _ rfl
  have r5 := blk_cell kr 5 _ rfl
  have g0 := blk_cell kg 0 _ rfl
  have g1 := blk_cell kg 1 _ rfl
  have g2 := blk_cell kg 2 _ rfl
  have g3 := blk_cell kg 3 _ rfl
  have g4 := blk_cell kg 4 _ rfl
  have g5 := blk_cell kg 5 _ rfl
  have g6 := blk_cell kg 6 _ rfl
  have g7 := blk_cell kg 7 _ rfl
  have g8 := blk_cell kg 8 _ rfl
  have g9 := blk_cell kg 9 _ rfl
  have g10 := blk_cell kg 10 _ rfl
  have g11 := blk_cell kg 11 _ rfl
  have g12 := blk_cell kg 12 _ rfl
  have g13 := blk_cell kg 13 _ rfl
  have g14 := blk_cell kg 14 _ rfl
  have g15 := blk_cell kg 15 _ rfl
  have g16 := blk_cell kg 16 _ rfl
  have g17 := blk_cell kg 17 _ rfl
  have g18 := blk_cell kg 18 _ rfl
  have g19 := blk_cell kg 19 _ rfl
  have fg := blk_free kg
  have HW := Lib.hid hWs
  obtain ⟨z, hz⟩ : ∃ z, z = w.heap.size := ⟨_, rfl⟩
  rw [← hz] at kr r0 r1 r2 r3 r4 r5 ⊢
  have HZ := Lib.hid hz
  have hzl := blk_lt kr
  have hgl := blk_lt kg
  have hgz : ¬ g = z := by omega
  have hzg : ¬ z = g := by omega
  clear hW hWs hz h1 hin
  go_quiet (fail)
  go_wp2_with fail
  go_quiet (fail)
  go_wp2_with fail
  go_quiet (fail)
  go_wp2_with fail
  refine name_world ?_
  intro W1 hW1
  have hB1 : Below w.heap.size w W1 := by rw [hW1]; repeat first | with_reducible exact hB0 | with_reducible refine below_drewN ?_ _
  have hB01 : Below W.heap.size W W1 := by rw [hW1]; repeat first | with_reducible exact Below.refl _ _ | with_reducible refine below_drewN ?_ _
  have kr := blk_keep hB01 kr
  have kg := blk_keep hB01 kg
  have hinW := hinW.below hB01
  have hij := hij.below hB01
  have c1 : ∀ w', Below W1.heap.size W1 w' → Calls Try.prog 22 #[.agg #[.int .u64 (I.o : Int), .int .u32 (I.n : Int), .int .u32 (I.r : Int), .slice a I.c.length cap], .agg #[.int .u64 (J.o : Int), .int .u32 (J.n : Int), .int .u32 (J.r : Int), .slice aj J.c.length cj]] w' fun e w'' => e = .returned (.bool false) ∧ Below W1.heap.size W1 w'' :=
    fun w' hw' => (refsame_in I J a aj cap cj w' (hinW.below hw') (hij.below hw')).mono (fun e w9 ⟨h1, h2⟩ => ⟨by rw [h1, In.same_comm]; simp [HSB.out], below_on hw' h2⟩)
  clear hW1 hB0 hB01
  clear g0 g1 g2 g3 g4 g5 g6 g7 g8 g9 g10 g11 g12 g13 g14 g15 g16 g17 g18 g19 r0 r1 r2 r3 r4 r5 fg
  refine wp_region_calm (by kernel_rfl) (by kernel_rfl) ?_
  repeat
    (with_reducible apply wpQuiet_step
     intro K hK
     go_simp
     first
       | (refine hK _ ?_; clear hK K)
       | (apply Exists.intro
          refine ⟨fun w' hw' => ?_, hK _ ?_⟩
          · (first
               | with_reducible exact c1 _ hw'
               | (
                  have kr' := blk_keep hw' kr
                  have kg' := blk_keep hw' kg
                  have r0 := blk_cell kr' 0 _ rfl
                  have r1 := blk_cell kr' 1 _ rfl
                  have r2 := blk_cell kr' 2 _ rfl
                  have r3 := blk_cell kr' 3 _ rfl
                  have r4 := blk_cell kr' 4 _ rfl
                  have r5 := blk_cell kr' 5 _ rfl
                  have g0 := blk_cell kg' 0 _ rfl
                  have g1 := blk_cell kg' 1 _ rfl
                  have g7 := blk_cell kg' 7 _ rfl
                  have g8 := blk_cell kg' 8 _ rfl
                  have g9 := blk_cell kg' 9 _ rfl
                  have g10 := blk_cell kg' 10 _ rfl
                  have g11 := blk_cell kg' 11 _ rfl
                  have g12 := blk_cell kg' 12 _ rfl
                  have g13 := blk_cell kg' 13 _ rfl
                  have g14 := blk_cell kg' 14 _ rfl
                  have g15 := blk_cell kg' 15 _ rfl
                  have g16 := blk_cell kg' 16 _ rfl
                  have g17 := blk_cell kg' 17 _ rfl
                  have g18 := blk_cell kg' 18 _ rfl
                  go_simp
                  first | done | exact rfl | exact ⟨rfl, rfl⟩ | exact c1 _ hw'))
          clear hK K))
  refine wpQuiet_nil ?_
  intro w1 hb1
  have hB1 := below_on hB1 hb1
  have kg1 := blk_keep hb1 kg
  have q5 := blk_cell kg1 19 _ rfl
  have fg1 := blk_free kg1
  clear hb1 c1
  go_wp2_with fail
  go_ret
  rw [HP.out]
  have ho : Only g w1 (w1.setCell ⟨g, 19, none⟩ (.bool true)) := (Only.refl g w1).setCell (p := ⟨g, 19, none⟩) rfl _
  have hkeep : ∀ j, X j → (w1.setCell ⟨g, 19, none⟩ (.bool true)).heap[j]? = w.heap[j]? := fun j hj => (ho.block j (by have := HBD.out j hj; have := hB1.size; omega) (by rintro rfl; exact HXG.out hj)).trans (hB1.block j (HBD.out j hj))
  have hs := hB1.size
  refine ⟨Plus X w1.heap.size w1.heap.size, w1.heap.size, rfl, RSideAt.make (w := w) (blk_set kg1 19 _) rfl (by rw [HK.out]) rfl HXG.out HBD.out (by omega) hs (Nat.le_refl _) ho.size (H4.out.plus hkeep) (H5.out.plus hkeep) (H6.out.plus hkeep) H7.out, Plus.gr hs (Nat.le_refl _), ho.size, (Only.of_below hB1).trans ho⟩
end Go.Proofs.Ytbbacmlcimgjbaa
