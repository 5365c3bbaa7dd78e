/-
  The walk of the document's answer for chapter 20: Begin.
-/
import Derived.Test.YtbbacmlcimgjbaaAgBegin
namespace Go.Proofs.Ytbbacmlcimgjbaa
open Go.RowKit
attribute [local irreducible] shortB fewB In.ok InAt MyIn LongAt In.same In.merge both cmdCells SideAt OptAt RdAt

/-- what holds of the document's side behind Begin -/
theorem RSideAt.begun {w w' : World} {X : Nat → Prop} {g : Nat} {s : Side} (h : RSideAt w X g s) (I : In) (cy : Int) {L M cap1 : Nat} {a1 : Option Addr} {t0 t1 t2 t3 kc ky k0 k1 k2 k3 : Value} {has keeps : Bool} (hcy : ¬ cy ≤ s.cy)
    (hin : InAt w' a1 cap1 I) (hwL : w.heap.size ≤ L) (hLM : L ≤ M) (hx : InX (Plus X L M) a1) (hM : M ≤ w'.heap.size) (hkeep : ∀ j, X j → w'.heap[j]? = w.heap[j]?)
    (hblk : w'.heap[g]? = some (.cells #[.int .i64 s.ch, .int .i64 cy, .bool true, .int .u64 (I.o : Int), .int .u32 (I.n : Int), .int .u32 (I.r : Int), .slice a1 I.c.length cap1, .bool has, t0, t1, t2, t3, .bool keeps, kc, ky, k0, k1, k2, k3, .bool false] 56 (0, 0)))
    (hh : has = (keptAt s.kept cy).isSome) (hk : keeps = (keptOn s.kept cy).isSome)
    (hpt : CellsAt w X t0 t1 t2 t3 (keptAt s.kept cy)) (hpk : CellsAt w X k0 k1 k2 k3 ((keptOn s.kept cy).map Prod.snd)) (hky : ∀ x, keptOn s.kept cy = some x → ky = .int .i64 x.1) : RSideAt w' (Plus X L M) g (s.begin cy I) := by
  have hlt := h.lt
  have hbd := h.bound
  obtain ⟨_, _, _, _, _, _, _, _, _, _, _, _, _, _, h1, h2, _⟩ := h
  have hup : ∀ j, X j → Plus X L M j := fun j hj => .inl hj
  unfold Side.begin
  rw [if_neg hcy]
  subst hh hk
  refine ⟨_, _, _, _, t0, t1, t2, t3, kc, ky, k0, k1, k2, k3, hblk, ?_, ?_, ⟨a1, cap1, rfl, rfl, rfl, rfl, hin, hx⟩, hpt.keep hkeep hup, hpk.keep hkeep hup, hky⟩
  · rintro (h | h)
    · exact h2 h
    · omega
  · rintro k (h | h)
    · have := hbd k h; omega
    · omega

attribute [local irreducible] RSideAt CellsAt

theorem rbegin_arg (s : Side) (X : Nat → Prop) (g : Nat) (cy : Int) (I : In) (a : Option Addr) (cap : Nat) (w : World) (h : RSideAt w X g s) (hcy : cy ≤ s.cy) :
    Calls Try.prog 14 #[.pointer (some ⟨g, 0, none⟩), .int .i64 cy, .agg #[.int .u64 (I.o : Int), .int .u32 (I.n : Int), .int .u32 (I.r : Int), .slice a I.c.length cap]] w
      fun e w' => e = .returned (.tuple #[.agg #[.int .i64 0, .int .i64 0, .int .u64 0, .int .u32 0, .int .u32 0, .slice none 0 0], .int .i64 2]) ∧ Below w.heap.size w w' := by
  unfold RSideAt at h
  obtain ⟨_, _, _, _, _, _, _, _, _, _, _, _, _, _, h1, _⟩ := h
  have e1 := blk_cell h1 1 _ rfl
  have hgl := blk_lt h1
  clear h1
  have d1 : decide (cy ≤ s.cy) = true := decide_eq_true hcy
  go_enter Try.func14, Try.ntmps14
  go_wp2_with fail
  exact bodyPost_ret (v := .tuple #[.agg #[.int .i64 0, .int .i64 0, .int .u64 0, .int .u32 0, .int .u32 0, .slice none 0 0], .int .i64 2]) (by simp [results, Try.results14, go_sem]) rfl ⟨rfl, below2' _ _ _⟩

theorem rset11 {w : World} {g : Nat} {a0 a1 a2 a3 a4 a5 a6 a7 a8 a9 a10 a11 a12 a13 a14 a15 a16 a17 a18 a19 : Value} {t : TypeId} {fr : Nat × Nat} (h0 : w.heap[g]? = some (.cells #[a0, a1, a2, a3, a4, a5, a6, a7, a8, a9, a10, a11, a12, a13, a14, a15, a16, a17, a18, a19] t fr)) (u0 u1 u2 u3 u4 u5 u6 u7 u8 u9 u10 : Value) :
    (((((((((((w.setCell ⟨g, 3, none⟩ u0).setCell ⟨g, 4, none⟩ u1).setCell ⟨g, 5, none⟩ u2).setCell ⟨g, 6, none⟩ u3).setCell ⟨g, 19, none⟩ u4).setCell ⟨g, 7, none⟩ u5).setCell ⟨g, 8, none⟩ u6).setCell ⟨g, 9, none⟩ u7).setCell ⟨g, 10, none⟩ u8).setCell ⟨g, 11, none⟩ u9).setCell ⟨g, 12, none⟩ u10).heap[g]? = some (.cells #[a0, a1, a2, u0, u1, u2, u3, u5, u6, u7, u8, u9, u10, a13, a14, a15, a16, a17, a18, u4] t fr) ∧ Only g w (((((((((((w.setCell ⟨g, 3, none⟩ u0).setCell ⟨g, 4, none⟩ u1).setCell ⟨g, 5, none⟩ u2).setCell ⟨g, 6, none⟩ u3).setCell ⟨g, 19, none⟩ u4).setCell ⟨g, 7, none⟩ u5).setCell ⟨g, 8, none⟩ u6).setCell ⟨g, 9, none⟩ u7).setCell ⟨g, 10, none⟩ u8).setCell ⟨g, 11, none⟩ u9).setCell ⟨g, 12, none⟩ u10) := by
  have o0 : Only g w w := Only.refl g w
  have h1 : (w.setCell ⟨g, 3, none⟩ u0).heap[g]? = some (.cells #[a0, a1, a2, u0, a4, a5, a6, a7, a8, a9, a10, a11, a12, a13, a14, a15, a16, a17, a18, a19] t fr) := blk_set h0 3 u0
  have o1 := o0.setCell (p := ⟨g, 3, none⟩) rfl u0
  generalize w.setCell ⟨g, 3, none⟩ u0 = w1 at h1 o1 ⊢
  have h2 : (w1.setCell ⟨g, 4, none⟩ u1).heap[g]? = some (.cells #[a0, a1, a2, u0, u1, a5, a6, a7, a8, a9, a10, a11, a12, a13, a14, a15, a16, a17, a18, a19] t fr) := blk_set h1 4 u1
  have o2 := o1.setCell (p := ⟨g, 4, none⟩) rfl u1
  generalize w1.setCell ⟨g, 4, none⟩ u1 = w2 at h2 o2 ⊢
  have h3 : (w2.setCell ⟨g, 5, none⟩ u2).heap[g]? = some (.cells #[a0, a1, a2, u0, u1, u2, a6, a7, a8, a9, a10, a11, a12, a13, a14, a15, a16, a17, a18, a19] t fr) := blk_set h2 5 u2
  have o3 := o2.setCell (p := ⟨g, 5, none⟩) rfl u2
  generalize w2.setCell ⟨g, 5, none⟩ u2 = w3 at h3 o3 ⊢
  have h4 : (w3.setCell ⟨g, 6, none⟩ u3).heap[g]? = some (.cells #[a0, a1, a2, u0, u1, u2, u3, a7, a8, a9, a10, a11, a12, a13, a14, a15, a16, a17, a18, a19] t fr) := blk_set h3 6 u3
  have o4 := o3.setCell (p := ⟨g, 6, none⟩) rfl u3
  generalize w3.setCell ⟨g, 6, none⟩ u3 = w4 at h4 o4 ⊢
  have h5 : (w4.setCell ⟨g, 19, none⟩ u4).heap[g]? = some (.cells #[a0, a1, a2, u0, u1, u2, u3, a7, a8, a9, a10, a11, a12, a13, a14, a15, a16, a17, a18, u4] t fr) := blk_set h4 19 u4
  have o5 := o4.setCell (p := ⟨g, 19, none⟩) rfl u4
  generalize w4.setCell ⟨g, 19, none⟩ u4 = w5 at h5 o5 ⊢
  have h6 : (w5.setCell ⟨g, 7, none⟩ u5).heap[g]? = some (.cells #[a0, a1, a2, u0, u1, u2, u3, u5, a8, a9, a10, a11, a12, a13, a14, a15, a16, a17, a18, u4] t fr) := blk_set h5 7 u5
  have o6 := o5.setCell (p := ⟨g, 7, none⟩) rfl u5
  generalize w5.setCell ⟨g, 7, none⟩ u5 = w6 at h6 o6 ⊢
  have h7 : (w6.setCell ⟨g, 8, none⟩ u6).heap[g]? = some (.cells #[a0, a1, a2, u0, u1, u2, u3, u5, u6, a9, a10, a11, a12, a13, a14, a15, a16, a17, a18, u4] t fr) := blk_set h6 8 u6
  have o7 := o6.setCell (p := ⟨g, 8, none⟩) rfl u6
  generalize w6.setCell ⟨g, 8, none⟩ u6 = w7 at h7 o7 ⊢
  have h8 : (w7.setCell ⟨g, 9, none⟩ u7).heap[g]? = some (.cells #[a0, a1, a2, u0, u1, u2, u3, u5, u6, u7, a10, a11, a12, a13, a14, a15, a16, a17, a18, u4] t fr) := blk_set h7 9 u7
  have o8 := o7.setCell (p := ⟨g, 9, none⟩) rfl u7
  generalize w7.setCell ⟨g, 9, none⟩ u7 = w8 at h8 o8 ⊢
  have h9 : (w8.setCell ⟨g, 10, none⟩ u8).heap[g]? = some (.cells #[a0, a1, a2, u0, u1, u2, u3, u5, u6, u7, u8, a11, a12, a13, a14, a15, a16, a17, a18, u4] t fr) := blk_set h8 10 u8
  have o9 := o8.setCell (p := ⟨g, 10, none⟩) rfl u8
  generalize w8.setCell ⟨g, 10, none⟩ u8 = w9 at h9 o9 ⊢
  have h10 : (w9.setCell ⟨g, 11, none⟩ u9).heap[g]? = some (.cells #[a0, a1, a2, u0, u1, u2, u3, u5, u6, u7, u8, u9, a12, a13, a14, a15, a16, a17, a18, u4] t fr) := blk_set h9 11 u9
  have o10 := o9.setCell (p := ⟨g, 11, none⟩) rfl u9
  generalize w9.setCell ⟨g, 11, none⟩ u9 = w10 at h10 o10 ⊢
  have h11 : (w10.setCell ⟨g, 12, none⟩ u10).heap[g]? = some (.cells #[a0, a1, a2, u0, u1, u2, u3, u5, u6, u7, u8, u9, u10, a13, a14, a15, a16, a17, a18, u4] t fr) := blk_set h10 12 u10
  have o11 := o10.setCell (p := ⟨g, 12, none⟩) rfl u10
  generalize w10.setCell ⟨g, 12, none⟩ u10 = w11 at h11 o11 ⊢
  exact ⟨h11, o11⟩

theorem rset15 {w : World} {g : Nat} {a0 a1 a2 a3 a4 a5 a6 a7 a8 a9 a10 a11 a12 a13 a14 a15 a16 a17 a18 a19 : Value} {t : TypeId} {fr : Nat × Nat} (h0 : w.heap[g]? = some (.cells #[a0, a1, a2, a3, a4, a5, a6, a7, a8, a9, a10, a11, a12, a13, a14, a15, a16, a17, a18, a19] t fr)) (u0 u1 u2 u3 u4 u5 u6 u7 u8 u9 u10 u11 u12 u13 u14 : Value) :
    (((((((((((((((w.setCell ⟨g, 3, none⟩ u0).setCell ⟨g, 4, none⟩ u1).setCell ⟨g, 5, none⟩ u2).setCell ⟨g, 6, none⟩ u3).setCell ⟨g, 19, none⟩ u4).setCell ⟨g, 7, none⟩ u5).setCell ⟨g, 8, none⟩ u6).setCell ⟨g, 9, none⟩ u7).setCell ⟨g, 10, none⟩ u8).setCell ⟨g, 11, none⟩ u9).setCell ⟨g, 8, none⟩ u10).setCell ⟨g, 9, none⟩ u11).setCell ⟨g, 10, none⟩ u12).setCell ⟨g, 11, none⟩ u13).setCell ⟨g, 12, none⟩ u14).heap[g]? = some (.cells #[a0, a1, a2, u0, u1, u2, u3, u5, u10, u11, u12, u13, u14, a13, a14, a15, a16, a17, a18, u4] t fr) ∧ Only g w (((((((((((((((w.setCell ⟨g, 3, none⟩ u0).setCell ⟨g, 4, none⟩ u1).setCell ⟨g, 5, none⟩ u2).setCell ⟨g, 6, none⟩ u3).setCell ⟨g, 19, none⟩ u4).setCell ⟨g, 7, none⟩ u5).setCell ⟨g, 8, none⟩ u6).setCell ⟨g, 9, none⟩ u7).setCell ⟨g, 10, none⟩ u8).setCell ⟨g, 11, none⟩ u9).setCell ⟨g, 8, none⟩ u10).setCell ⟨g, 9, none⟩ u11).setCell ⟨g, 10, none⟩ u12).setCell ⟨g, 11, none⟩ u13).setCell ⟨g, 12, none⟩ u14) := by
  have o0 : Only g w w := Only.refl g w
  have h1 : (w.setCell ⟨g, 3, none⟩ u0).heap[g]? = some (.cells #[a0, a1, a2, u0, a4, a5, a6, a7, a8, a9, a10, a11, a12, a13, a14, a15, a16, a17, a18, a19] t fr) := blk_set h0 3 u0
  have o1 := o0.setCell (p := ⟨g, 3, none⟩) rfl u0
  generalize w.setCell ⟨g, 3, none⟩ u0 = w1 at h1 o1 ⊢
  have h2 : (w1.setCell ⟨g, 4, none⟩ u1).heap[g]? = some (.cells #[a0, a1, a2, u0, u1, a5, a6, a7, a8, a9, a10, a11, a12, a13, a14, a15, a16, a17, a18, a19] t fr) := blk_set h1 4 u1
  have o2 := o1.setCell (p := ⟨g, 4, none⟩) rfl u1
  generalize w1.setCell ⟨g, 4, none⟩ u1 = w2 at h2 o2 ⊢
  have h3 : (w2.setCell ⟨g, 5, none⟩ u2).heap[g]? = some (.cells #[a0, a1, a2, u0, u1, u2, a6, a7, a8, a9, a10, a11, a12, a13, a14, a15, a16, a17, a18, a19] t fr) := blk_set h2 5 u2
  have o3 := o2.setCell (p := ⟨g, 5, none⟩) rfl u2
  generalize w2.setCell ⟨g, 5, none⟩ u2 = w3 at h3 o3 ⊢
  have h4 : (w3.setCell ⟨g, 6, none⟩ u3).heap[g]? = some (.cells #[a0, a1, a2, u0, u1, u2, u3, a7, a8, a9, a10, a11, a12, a13, a14, a15, a16, a17, a18, a19] t fr) := blk_set h3 6 u3
  have o4 := o3.setCell (p := ⟨g, 6, none⟩) rfl u3
  generalize w3.setCell ⟨g, 6, none⟩ u3 = w4 at h4 o4 ⊢
  have h5 : (w4.setCell ⟨g, 19, none⟩ u4).heap[g]? = some (.cells #[a0, a1, a2, u0, u1, u2, u3, a7, a8, a9, a10, a11, a12, a13, a14, a15, a16, a17, a18, u4] t fr) := blk_set h4 19 u4
  have o5 := o4.setCell (p := ⟨g, 19, none⟩) rfl u4
  generalize w4.setCell ⟨g, 19, none⟩ u4 = w5 at h5 o5 ⊢
  have h6 : (w5.setCell ⟨g, 7, none⟩ u5).heap[g]? = some (.cells #[a0, a1, a2, u0, u1, u2, u3, u5, a8, a9, a10, a11, a12, a13, a14, a15, a16, a17, a18, u4] t fr) := blk_set h5 7 u5
  have o6 := o5.setCell (p := ⟨g, 7, none⟩) rfl u5
  generalize w5.setCell ⟨g, 7, none⟩ u5 = w6 at h6 o6 ⊢
  have h7 : (w6.setCell ⟨g, 8, none⟩ u6).heap[g]? = some (.cells #[a0, a1, a2, u0, u1, u2, u3, u5, u6, a9, a10, a11, a12, a13, a14, a15, a16, a17, a18, u4] t fr) := blk_set h6 8 u6
  have o7 := o6.setCell (p := ⟨g, 8, none⟩) rfl u6
  generalize w6.setCell ⟨g, 8, none⟩ u6 = w7 at h7 o7 ⊢
  have h8 : (w7.setCell ⟨g, 9, none⟩ u7).heap[g]? = some (.cells #[a0, a1, a2, u0, u1, u2, u3, u5, u6, u7, a10, a11, a12, a13, a14, a15, a16, a17, a18, u4] t fr) := blk_set h7 9 u7
  have o8 := o7.setCell (p := ⟨g, 9, none⟩) rfl u7
  generalize w7.setCell ⟨g, 9, none⟩ u7 = w8 at h8 o8 ⊢
  have h9 : (w8.setCell ⟨g, 10, none⟩ u8).heap[g]? = some (.cells #[a0, a1, a2, u0, u1, u2, u3, u5, u6, u7, u8, a11, a12, a13, a14, a15, a16, a17, a18, u4] t fr) := blk_set h8 10 u8
  have o9 := o8.setCell (p := ⟨g, 10, none⟩) rfl u8
  generalize w8.setCell ⟨g, 10, none⟩ u8 = w9 at h9 o9 ⊢
  have h10 : (w9.setCell ⟨g, 11, none⟩ u9).heap[g]? = some (.cells #[a0, a1, a2, u0, u1, u2, u3, u5, u6, u7, u8, u9, a12, a13, a14, a15, a16, a17, a18, u4] t fr) := blk_set h9 11 u9
  have o10 := o9.setCell (p := ⟨g, 11, none⟩) rfl u9
  generalize w9.setCell ⟨g, 11, none⟩ u9 = w10 at h10 o10 ⊢
  have h11 : (w10.setCell ⟨g, 8, none⟩ u10).heap[g]? = some (.cells #[a0, a1, a2, u0, u1, u2, u3, u5, u10, u7, u8, u9, a12, a13, a14, a15, a16, a17, a18, u4] t fr) := blk_set h10 8 u10
  have o11 := o10.setCell (p := ⟨g, 8, none⟩) rfl u10
  generalize w10.setCell ⟨g, 8, none⟩ u10 = w11 at h11 o11 ⊢
  have h12 : (w11.setCell ⟨g, 9, none⟩ u11).heap[g]? = some (.cells #[a0, a1, a2, u0, u1, u2, u3, u5, u10, u11, u8, u9, a12, a13, a14, a15, a16, a17, a18, u4] t fr) := blk_set h11 9 u11
  have o12 := o11.setCell (p := ⟨g, 9, none⟩) rfl u11
  generalize w11.setCell ⟨g, 9, none⟩ u11 = w12 at h12 o12 ⊢
  have h13 : (w12.setCell ⟨g, 10, none⟩ u12).heap[g]? = some (.cells #[a0, a1, a2, u0, u1, u2, u3, u5, u10, u11, u12, u9, a12, a13, a14, a15, a16, a17, a18, u4] t fr) := blk_set h12 10 u12
  have o13 := o12.setCell (p := ⟨g, 10, none⟩) rfl u12
  generalize w12.setCell ⟨g, 10, none⟩ u12 = w13 at h13 o13 ⊢
  have h14 : (w13.setCell ⟨g, 11, none⟩ u13).heap[g]? = some (.cells #[a0, a1, a2, u0, u1, u2, u3, u5, u10, u11, u12, u13, a12, a13, a14, a15, a16, a17, a18, u4] t fr) := blk_set h13 11 u13
  have o14 := o13.setCell (p := ⟨g, 11, none⟩) rfl u13
  generalize w13.setCell ⟨g, 11, none⟩ u13 = w14 at h14 o14 ⊢
  have h15 : (w14.setCell ⟨g, 12, none⟩ u14).heap[g]? = some (.cells #[a0, a1, a2, u0, u1, u2, u3, u5, u10, u11, u12, u13, u14, a13, a14, a15, a16, a17, a18, u4] t fr) := blk_set h14 12 u14
  have o15 := o14.setCell (p := ⟨g, 12, none⟩) rfl u14
  generalize w14.setCell ⟨g, 12, none⟩ u14 = w15 at h15 o15 ⊢
  exact ⟨h15, o15⟩

set_option maxHeartbeats 2000000 in
theorem rbegin_none (s : Side) (X : Nat → Prop) (g : Nat) (cy : Int) (I : In) (a : Option Addr) (cap : Nat) (w : World) (h : RSideAt w X g s) (hcy : ¬ cy ≤ s.cy) (hin : InAt w a cap I) (hag : I.c ≠ [] → ¬ Blk a g) (hk : s.kept = none) :
    Calls Try.prog 14 #[.pointer (some ⟨g, 0, none⟩), .int .i64 cy, .agg #[.int .u64 (I.o : Int), .int .u32 (I.n : Int), .int .u32 (I.r : Int), .slice a I.c.length cap]] w
      fun e w' => ∃ X' M a' cap', e = .returned (.tuple #[.agg #[.int .i64 s.ch, .int .i64 cy, .int .u64 (I.o : Int), .int .u32 (I.n : Int), .int .u32 (I.r : Int), .slice a' I.c.length cap'], .int .i64 0]) ∧
        RSideAt w' X' g (s.begin cy I) ∧ Gr X X' w.heap.size M ∧ w.heap.size ≤ M ∧ MyIn w' M a' ∧ InAt w' a' cap' I ∧ Only g w w' := by
  have HS := Lib.hid h
  have hlt := h.lt
  unfold RSideAt at h
  obtain ⟨o0, o1, o2, o3, t0, t1, t2, t3, kc, ky, x0, x1, x2, x3, h1, hXg, hbd, _, _, h6, h7⟩ := h
  rw [hk] at h1 h6 h7
  have hHA : false = (keptAt s.kept cy).isSome := by rw [hk]; rfl
  have hKE : false = (keptOn s.kept cy).isSome := by rw [hk]; rfl
  have eAt : keptAt s.kept cy = none := by rw [hk]; rfl
  have eOn : keptOn s.kept cy = none := by rw [hk]; rfl
  have hpt : CellsAt w X (.int .u64 0) (.int .u32 0) (.int .u32 0) (.slice none 0 0) (keptAt s.kept cy) := by rw [eAt]; unfold CellsAt; trivial
  have hpk : CellsAt w X x0 x1 x2 x3 ((keptOn s.kept cy).map Prod.snd) := by rw [eOn]; unfold CellsAt; trivial
  have hky : ∀ x, keptOn s.kept cy = some x → ky = .int .i64 x.1 := by rw [eOn]; intro x h; cases h
  have HG := Lib.hid hag
  have e0 := blk_cell h1 0 _ rfl
  have e1 := blk_cell h1 1 _ rfl
  have e2 := blk_cell h1 2 _ rfl
  have e3 := blk_cell h1 3 _ rfl
  have e4 := blk_cell h1 4 _ rfl
  have e5 := blk_cell h1 5 _ rfl
  have e6 := blk_cell h1 6 _ rfl
  have e7 := blk_cell h1 7 _ rfl
  have e8 := blk_cell h1 8 _ rfl
  have e9 := blk_cell h1 9 _ rfl
  have e10 := blk_cell h1 10 _ rfl
  have e11 := blk_cell h1 11 _ rfl
  have e12 := blk_cell h1 12 _ rfl
  have e13 := blk_cell h1 13 _ rfl
  have e14 := blk_cell h1 14 _ rfl
  have e15 := blk_cell h1 15 _ rfl
  have e16 := blk_cell h1 16 _ rfl
  have e17 := blk_cell h1 17 _ rfl
  have e18 := blk_cell h1 18 _ rfl
  have e19 := blk_cell h1 19 _ rfl
  have f0 := blk_free h1
  have d1 : decide (cy ≤ s.cy) = false := decide_eq_false hcy
  have HB := Lib.hid hbd
  have HC := Lib.hid hcy
  have HPT := Lib.hid hpt
  have HPK := Lib.hid hpk
  have HKY := Lib.hid hky
  have HHA := Lib.hid hHA
  have HKE := Lib.hid hKE
  have HXG := Lib.hid hXg
  clear hk hag hbd hcy hpt hpk hXg hky hHA hKE h6 h7 eAt eOn
  go_enter Try.func14, Try.ntmps14
  go_wp2_with fail
  refine name_calls ?_
  intro W1 hW1
  obtain ⟨k0, k1⟩ := new2 hW1
  have hWs := size2 hW1
  rw [World.size_setCell, World.size_setCell] at k0 k1 hWs
  have kg1 : W1.heap[g]? = some (.cells #[.int .i64 s.ch, .int .i64 cy, .bool true, o0, o1, o2, o3, .bool s.other.isSome, t0, t1, t2, t3, .bool false, kc, ky, x0, x1, x2, x3, .bool s.broken] 56 (0, 0)) := by
    rw [hW1]; exact blk_keep (below2' _ _ _) (blk_set (blk_set h1 1 _) 2 _)
  have ho1 : Only g w W1 := by
    rw [hW1]; exact (((Only.refl g w).setCell (p := ⟨g, 1, none⟩) rfl _).setCell (p := ⟨g, 2, none⟩) rfl _).trans (Only.of_below (below2' _ _ _))
  have hin1 := hin.only HG.out ho1
  have HW1 := Lib.hid hWs
  clear hW1 hWs e0 e1 e2 e3 e4 e5 e6 e7 e8 e9 e10 e11 e12 e13 e14 e15 e16 e17 e18 e19 f0 d1
  refine (copied_is I a cap W1 hin1).mono ?_
  rintro e w1 ⟨a1, c1, rfl, hm1, hi1, hb1⟩
  have k0 := blk_keep hb1 k0
  have k1 := blk_keep hb1 k1
  have kg1 := blk_keep hb1 kg1
  have hin2 := hin1.below hb1
  have ho1 := ho1.trans (Only.of_below hb1)
  have HBL := Lib.hid (fun k hk => (hm1.blk (k := k) hk).2)
  have HS1 := Lib.hid hb1.size
  clear hb1 hin1
  have e0 := blk_cell kg1 0 _ rfl
  have e1 := blk_cell kg1 1 _ rfl
  have e2 := blk_cell kg1 2 _ rfl
  have e3 := blk_cell kg1 3 _ rfl
  have e4 := blk_cell kg1 4 _ rfl
  have e5 := blk_cell kg1 5 _ rfl
  have e6 := blk_cell kg1 6 _ rfl
  have e7 := blk_cell kg1 7 _ rfl
  have e8 := blk_cell kg1 8 _ rfl
  have e9 := blk_cell kg1 9 _ rfl
  have e10 := blk_cell kg1 10 _ rfl
  have e11 := blk_cell kg1 11 _ rfl
  have e12 := blk_cell kg1 12 _ rfl
  have e13 := blk_cell kg1 13 _ rfl
  have e14 := blk_cell kg1 14 _ rfl
  have e15 := blk_cell kg1 15 _ rfl
  have e16 := blk_cell kg1 16 _ rfl
  have e17 := blk_cell kg1 17 _ rfl
  have e18 := blk_cell kg1 18 _ rfl
  have e19 := blk_cell kg1 19 _ rfl
  have f0 := blk_free kg1
  have z0 := blk_cell k0 0 _ rfl
  have z1 := blk_cell k0 1 _ rfl
  have z2 := blk_cell k0 2 _ rfl
  have z3 := blk_cell k0 3 _ rfl
  have hg0 : ¬ g = w.heap.size := by omega
  have hg1 : ¬ g = w.heap.size + 1 := by omega
  go_wp2_with fail
  refine name_world ?_
  intro W2 hW2
  obtain ⟨kg2, ho2⟩ : W2.heap[g]? = some (.cells #[.int .i64 s.ch, .int .i64 cy, .bool true, .int .u64 (I.o : Int), .int .u32 (I.n : Int), .int .u32 (I.r : Int), .slice a1 I.c.length c1, .bool false, .int .u64 0, .int .u32 0, .int .u32 0, .slice none 0 0, .bool false, kc, ky, x0, x1, x2, x3, .bool false] 56 (0, 0)) ∧ Only g w1 W2 := by
    rw [hW2]; exact rset11 kg1 _ _ _ _ _ _ _ _ _ _ _
  have k0 := ho2.keep (show ¬ w.heap.size = g by omega) k0
  have k1 := ho2.keep (show ¬ w.heap.size + 1 = g by omega) k1
  have hmy1 := my_only ⟨hm1, hi1⟩ ho2 (by have := HW1.out; omega)
  have hin3 := hin2.only HG.out ho2
  have ho3 := ho1.trans ho2
  have hHB : ∀ j, X j → W2.heap[j]? = w.heap[j]? := fun j hj => ho3.block j (HB.out j hj) (by rintro rfl; exact HXG.out hj)
  have HS2 := Lib.hid ho2.size
  have HHB := Lib.hid hHB
  have g0 := blk_cell kg2 0 _ rfl
  have z0 := blk_cell k0 0 _ rfl
  have z1 := blk_cell k0 1 _ rfl
  have z2 := blk_cell k0 2 _ rfl
  have z3 := blk_cell k0 3 _ rfl
  have l0 := blk_lt k0
  have l1 := blk_lt k1
  have lg := blk_lt kg2
  clear hW2 hHB e0 e1 e2 e3 e4 e5 e6 e7 e8 e9 e10 e11 e12 e13 e14 e15 e16 e17 e18 e19 f0 hm1 hi1 hin2 kg1 h1
  go_region_with ((go_at_call 26; refine (copied_is I a cap _ (hin3.below ((Below.refl _ _).drew))).mono ?_; rintro e w3 ⟨a2, c2, rfl, hm3, hi3, hb3⟩; have hb3 : Below W2.heap.size W2 w3 := (Below.refl _ _).drew.trans hb3; have k1' := blk_keep hb3 k1; have kg3 := blk_keep hb3 kg2; have g0' := blk_cell kg3 0 _ rfl; have q0 := blk_cell k1' 0 _ rfl; have q1 := blk_cell k1' 1 _ rfl; have q2 := blk_cell k1' 2 _ rfl; have q3 := blk_cell k1' 3 _ rfl; have q4 := blk_cell k1' 4 _ rfl; have q5 := blk_cell k1' 5 _ rfl; have fq := blk_free k1'))
  all_goals go_wp2_with fail
  all_goals
    have hfin := only6 w3 (w.heap.size + 1) (.int .i64 s.ch) (.int .i64 cy) (.int .u64 (I.o : Int)) (.int .u32 (I.n : Int)) (.int .u32 (I.r : Int)) (.slice a2 I.c.length c2)
    refine bodyPost_ret (v := .tuple #[.agg #[.int .i64 s.ch, .int .i64 cy, .int .u64 (I.o : Int), .int .u32 (I.n : Int), .int .u32 (I.r : Int), .slice a2 I.c.length c2], .int .i64 0]) (by simp [results, Try.results14, go_sem, q0, q1, q2, q3, q4, q5]) rfl ?_
    have n1 := HW1.out
    have n2 := HS1.out
    have n3 := HS2.out
    have n4 := hb3.size
    have hmy1 := my_only (my_below hb3 hmy1) hfin (by omega)
    have hmy3 := my_only ⟨hm3, hi3⟩ hfin (by show w.heap.size + 1 < W2.heap.size; omega)
    have hg3 := hfin.keep (show ¬ g = w.heap.size + 1 by omega) kg3
    refine ⟨Plus X W1.heap.size w1.heap.size, w1.heap.size, a2, c2, rfl, ?_, Plus.gr (by omega) (Nat.le_refl _), by omega, hmy3.1.mono (show w1.heap.size ≤ W2.heap.size from n3), hmy3.2, (ho3.trans (Only.of_below hb3)).after hfin (by omega)⟩
    refine HS.out.begun I cy (by have := HC.out; omega) hmy1.2 (by omega) (by omega) ?_ ?_ ?_ hg3 HHA.out HKE.out HPT.out HPK.out HKY.out
    · rcases hmy1.1.form with h | ⟨b, cur, h, hB1, hB2⟩
      · exact .inl h
      · exact .inr ⟨b, h, .inr ⟨hB1, HBL.out b ⟨_, h, rfl⟩⟩⟩
    · exact Nat.le_trans (by omega) hfin.size
    · intro j hj
      have := HB.out j hj
      exact (hfin.block j (by omega) (by omega)).trans ((hb3.block j (by omega)).trans (HHB.out j hj))

set_option maxHeartbeats 2000000 in
theorem rbegin_lt (s : Side) (X : Nat → Prop) (g : Nat) (cy : Int) (I : In) (a : Option Addr) (cap : Nat) (w : World) (h : RSideAt w X g s) (hcy : ¬ cy ≤ s.cy) (hin : InAt w a cap I) (hag : I.c ≠ [] → ¬ Blk a g) (c : Int) (J : In) (hk : s.kept = some (c, J)) (hc : c < cy) :
    Calls Try.prog 14 #[.pointer (some ⟨g, 0, none⟩), .int .i64 cy, .agg #[.int .u64 (I.o : Int), .int .u32 (I.n : Int), .int .u32 (I.r : Int), .slice a I.c.length cap]] w
      fun e w' => ∃ X' M a' cap', e = .returned (.tuple #[.agg #[.int .i64 s.ch, .int .i64 cy, .int .u64 (I.o : Int), .int .u32 (I.n : Int), .int .u32 (I.r : Int), .slice a' I.c.length cap'], .int .i64 0]) ∧
        RSideAt w' X' g (s.begin cy I) ∧ Gr X X' w.heap.size M ∧ w.heap.size ≤ M ∧ MyIn w' M a' ∧ InAt w' a' cap' I ∧ Only g w w' := by
  have HS := Lib.hid h
  have hlt := h.lt
  unfold RSideAt at h
  obtain ⟨o0, o1, o2, o3, t0, t1, t2, t3, kc, ky, x0, x1, x2, x3, h1, hXg, hbd, _, _, h6, h7⟩ := h
  rw [hk] at h1 h6 h7
  have hHA : false = (keptAt s.kept cy).isSome := by rw [hk]; unfold keptAt; simp only []; rw [if_neg (show ¬ c = cy by omega)]; rfl
  have hKE : false = (keptOn s.kept cy).isSome := by rw [hk]; unfold keptOn; simp only []; rw [if_pos (show c ≤ cy by omega)]; rfl
  obtain rfl : ky = .int .i64 c := h7 (c, J) rfl
  have eAt : keptAt s.kept cy = none := by rw [hk]; unfold keptAt; simp only []; rw [if_neg (show ¬ c = cy by omega)]
  have eOn : keptOn s.kept cy = none := by rw [hk]; unfold keptOn; simp only []; rw [if_pos (show c ≤ cy by omega)]
  have hpt : CellsAt w X (.int .u64 0) (.int .u32 0) (.int .u32 0) (.slice none 0 0) (keptAt s.kept cy) := by rw [eAt]; unfold CellsAt; trivial
  have hpk : CellsAt w X x0 x1 x2 x3 ((keptOn s.kept cy).map Prod.snd) := by rw [eOn]; unfold CellsAt; trivial
  have hky : ∀ x, keptOn s.kept cy = some x → (Value.int .i64 c) = .int .i64 x.1 := by rw [eOn]; intro x h; cases h
  have u1 : (c == cy) = false := by simpa using (show ¬ c = cy by omega)
  have u2 : decide (cy < c) = false := decide_eq_false (by omega)
  have u3 : decide (c > cy) = false := decide_eq_false (by omega)
  clear hc
  have HG := Lib.hid hag
  have e0 := blk_cell h1 0 _ rfl
  have e1 := blk_cell h1 1 _ rfl
  have e2 := blk_cell h1 2 _ rfl
  have e3 := blk_cell h1 3 _ rfl
  have e4 := blk_cell h1 4 _ rfl
  have e5 := blk_cell h1 5 _ rfl
  have e6 := blk_cell h1 6 _ rfl
  have e7 := blk_cell h1 7 _ rfl
  have e8 := blk_cell h1 8 _ rfl
  have e9 := blk_cell h1 9 _ rfl
  have e10 := blk_cell h1 10 _ rfl
  have e11 := blk_cell h1 11 _ rfl
  have e12 := blk_cell h1 12 _ rfl
  have e13 := blk_cell h1 13 _ rfl
  have e14 := blk_cell h1 14 _ rfl
  have e15 := blk_cell h1 15 _ rfl
  have e16 := blk_cell h1 16 _ rfl
  have e17 := blk_cell h1 17 _ rfl
  have e18 := blk_cell h1 18 _ rfl
  have e19 := blk_cell h1 19 _ rfl
  have f0 := blk_free h1
  have d1 : decide (cy ≤ s.cy) = false := decide_eq_false hcy
  have HB := Lib.hid hbd
  have HC := Lib.hid hcy
  have HPT := Lib.hid hpt
  have HPK := Lib.hid hpk
  have HKY := Lib.hid hky
  have HHA := Lib.hid hHA
  have HKE := Lib.hid hKE
  have HXG := Lib.hid hXg
  clear hk hag hbd hcy hpt hpk hXg hky hHA hKE h6 h7 eAt eOn
  go_enter Try.func14, Try.ntmps14
  go_wp2_with fail
  refine name_calls ?_
  intro W1 hW1
  obtain ⟨k0, k1⟩ := new2 hW1
  have hWs := size2 hW1
  rw [World.size_setCell, World.size_setCell] at k0 k1 hWs
  have kg1 : W1.heap[g]? = some (.cells #[.int .i64 s.ch, .int .i64 cy, .bool true, o0, o1, o2, o3, .bool s.other.isSome, t0, t1, t2, t3, .bool true, kc, .int .i64 c, x0, x1, x2, x3, .bool s.broken] 56 (0, 0)) := by
    rw [hW1]; exact blk_keep (below2' _ _ _) (blk_set (blk_set h1 1 _) 2 _)
  have ho1 : Only g w W1 := by
    rw [hW1]; exact (((Only.refl g w).setCell (p := ⟨g, 1, none⟩) rfl _).setCell (p := ⟨g, 2, none⟩) rfl _).trans (Only.of_below (below2' _ _ _))
  have hin1 := hin.only HG.out ho1
  have HW1 := Lib.hid hWs
  clear hW1 hWs e0 e1 e2 e3 e4 e5 e6 e7 e8 e9 e10 e11 e12 e13 e14 e15 e16 e17 e18 e19 f0 d1
  refine (copied_is I a cap W1 hin1).mono ?_
  rintro e w1 ⟨a1, c1, rfl, hm1, hi1, hb1⟩
  have k0 := blk_keep hb1 k0
  have k1 := blk_keep hb1 k1
  have kg1 := blk_keep hb1 kg1
  have hin2 := hin1.below hb1
  have ho1 := ho1.trans (Only.of_below hb1)
  have HBL := Lib.hid (fun k hk => (hm1.blk (k := k) hk).2)
  have HS1 := Lib.hid hb1.size
  clear hb1 hin1
  have e0 := blk_cell kg1 0 _ rfl
  have e1 := blk_cell kg1 1 _ rfl
  have e2 := blk_cell kg1 2 _ rfl
  have e3 := blk_cell kg1 3 _ rfl
  have e4 := blk_cell kg1 4 _ rfl
  have e5 := blk_cell kg1 5 _ rfl
  have e6 := blk_cell kg1 6 _ rfl
  have e7 := blk_cell kg1 7 _ rfl
  have e8 := blk_cell kg1 8 _ rfl
  have e9 := blk_cell kg1 9 _ rfl
  have e10 := blk_cell kg1 10 _ rfl
  have e11 := blk_cell kg1 11 _ rfl
  have e12 := blk_cell kg1 12 _ rfl
  have e13 := blk_cell kg1 13 _ rfl
  have e14 := blk_cell kg1 14 _ rfl
  have e15 := blk_cell kg1 15 _ rfl
  have e16 := blk_cell kg1 16 _ rfl
  have e17 := blk_cell kg1 17 _ rfl
  have e18 := blk_cell kg1 18 _ rfl
  have e19 := blk_cell kg1 19 _ rfl
  have f0 := blk_free kg1
  have z0 := blk_cell k0 0 _ rfl
  have z1 := blk_cell k0 1 _ rfl
  have z2 := blk_cell k0 2 _ rfl
  have z3 := blk_cell k0 3 _ rfl
  have hg0 : ¬ g = w.heap.size := by omega
  have hg1 : ¬ g = w.heap.size + 1 := by omega
  go_wp2_with fail
  refine name_world ?_
  intro W2 hW2
  obtain ⟨kg2, ho2⟩ : W2.heap[g]? = some (.cells #[.int .i64 s.ch, .int .i64 cy, .bool true, .int .u64 (I.o : Int), .int .u32 (I.n : Int), .int .u32 (I.r : Int), .slice a1 I.c.length c1, .bool false, .int .u64 0, .int .u32 0, .int .u32 0, .slice none 0 0, .bool false, kc, .int .i64 c, x0, x1, x2, x3, .bool false] 56 (0, 0)) ∧ Only g w1 W2 := by
    rw [hW2]; exact rset11 kg1 _ _ _ _ _ _ _ _ _ _ _
  have k0 := ho2.keep (show ¬ w.heap.size = g by omega) k0
  have k1 := ho2.keep (show ¬ w.heap.size + 1 = g by omega) k1
  have hmy1 := my_only ⟨hm1, hi1⟩ ho2 (by have := HW1.out; omega)
  have hin3 := hin2.only HG.out ho2
  have ho3 := ho1.trans ho2
  have hHB : ∀ j, X j → W2.heap[j]? = w.heap[j]? := fun j hj => ho3.block j (HB.out j hj) (by rintro rfl; exact HXG.out hj)
  have HS2 := Lib.hid ho2.size
  have HHB := Lib.hid hHB
  have g0 := blk_cell kg2 0 _ rfl
  have z0 := blk_cell k0 0 _ rfl
  have z1 := blk_cell k0 1 _ rfl
  have z2 := blk_cell k0 2 _ rfl
  have z3 := blk_cell k0 3 _ rfl
  have l0 := blk_lt k0
  have l1 := blk_lt k1
  have lg := blk_lt kg2
  clear hW2 hHB e0 e1 e2 e3 e4 e5 e6 e7 e8 e9 e10 e11 e12 e13 e14 e15 e16 e17 e18 e19 f0 hm1 hi1 hin2 kg1 h1
  go_region_with ((go_at_call 26; refine (copied_is I a cap _ (hin3.below ((Below.refl _ _).drew))).mono ?_; rintro e w3 ⟨a2, c2, rfl, hm3, hi3, hb3⟩; have hb3 : Below W2.heap.size W2 w3 := (Below.refl _ _).drew.trans hb3; have k1' := blk_keep hb3 k1; have kg3 := blk_keep hb3 kg2; have g0' := blk_cell kg3 0 _ rfl; have q0 := blk_cell k1' 0 _ rfl; have q1 := blk_cell k1' 1 _ rfl; have q2 := blk_cell k1' 2 _ rfl; have q3 := blk_cell k1' 3 _ rfl; have q4 := blk_cell k1' 4 _ rfl; have q5 := blk_cell k1' 5 _ rfl; have fq := blk_free k1'))
  all_goals go_wp2_with fail
  all_goals
    have hfin := only6 w3 (w.heap.size + 1) (.int .i64 s.ch) (.int .i64 cy) (.int .u64 (I.o : Int)) (.int .u32 (I.n : Int)) (.int .u32 (I.r : Int)) (.slice a2 I.c.length c2)
    refine bodyPost_ret (v := .tuple #[.agg #[.int .i64 s.ch, .int .i64 cy, .int .u64 (I.o : Int), .int .u32 (I.n : Int), .int .u32 (I.r : Int), .slice a2 I.c.length c2], .int .i64 0]) (by simp [results, Try.results14, go_sem, q0, q1, q2, q3, q4, q5]) rfl ?_
    have n1 := HW1.out
    have n2 := HS1.out
    have n3 := HS2.out
    have n4 := hb3.size
    have hmy1 := my_only (my_below hb3 hmy1) hfin (by omega)
    have hmy3 := my_only ⟨hm3, hi3⟩ hfin (by show w.heap.size + 1 < W2.heap.size; omega)
    have hg3 := hfin.keep (show ¬ g = w.heap.size + 1 by omega) kg3
    refine ⟨Plus X W1.heap.size w1.heap.size, w1.heap.size, a2, c2, rfl, ?_, Plus.gr (by omega) (Nat.le_refl _), by omega, hmy3.1.mono (show w1.heap.size ≤ W2.heap.size from n3), hmy3.2, (ho3.trans (Only.of_below hb3)).after hfin (by omega)⟩
    refine HS.out.begun I cy (by have := HC.out; omega) hmy1.2 (by omega) (by omega) ?_ ?_ ?_ hg3 HHA.out HKE.out HPT.out HPK.out HKY.out
    · rcases hmy1.1.form with h | ⟨b, cur, h, hB1, hB2⟩
      · exact .inl h
      · exact .inr ⟨b, h, .inr ⟨hB1, HBL.out b ⟨_, h, rfl⟩⟩⟩
    · exact Nat.le_trans (by omega) hfin.size
    · intro j hj
      have := HB.out j hj
      exact (hfin.block j (by omega) (by omega)).trans ((hb3.block j (by omega)).trans (HHB.out j hj))

set_option maxHeartbeats 2000000 in
theorem rbegin_eq (s : Side) (X : Nat → Prop) (g : Nat) (cy : Int) (I : In) (a : Option Addr) (cap : Nat) (w : World) (h : RSideAt w X g s) (hcy : ¬ cy ≤ s.cy) (hin : InAt w a cap I) (hag : I.c ≠ [] → ¬ Blk a g) (c : Int) (J : In) (hk : s.kept = some (c, J)) (hc : c = cy) :
    Calls Try.prog 14 #[.pointer (some ⟨g, 0, none⟩), .int .i64 cy, .agg #[.int .u64 (I.o : Int), .int .u32 (I.n : Int), .int .u32 (I.r : Int), .slice a I.c.length cap]] w
      fun e w' => ∃ X' M a' cap', e = .returned (.tuple #[.agg #[.int .i64 s.ch, .int .i64 cy, .int .u64 (I.o : Int), .int .u32 (I.n : Int), .int .u32 (I.r : Int), .slice a' I.c.length cap'], .int .i64 0]) ∧
        RSideAt w' X' g (s.begin cy I) ∧ Gr X X' w.heap.size M ∧ w.heap.size ≤ M ∧ MyIn w' M a' ∧ InAt w' a' cap' I ∧ Only g w w' := by
  have HS := Lib.hid h
  have hlt := h.lt
  unfold RSideAt at h
  obtain ⟨o0, o1, o2, o3, t0, t1, t2, t3, kc, ky, x0, x1, x2, x3, h1, hXg, hbd, _, _, h6, h7⟩ := h
  rw [hk] at h1 h6 h7
  have hHA : true = (keptAt s.kept cy).isSome := by rw [hk]; unfold keptAt; simp only []; rw [if_pos hc]; rfl
  have hKE : false = (keptOn s.kept cy).isSome := by rw [hk]; unfold keptOn; simp only []; rw [if_pos (show c ≤ cy by omega)]; rfl
  obtain rfl : ky = .int .i64 c := h7 (c, J) rfl
  have eAt : keptAt s.kept cy = some J := by rw [hk]; unfold keptAt; simp only []; rw [if_pos hc]
  have eOn : keptOn s.kept cy = none := by rw [hk]; unfold keptOn; simp only []; rw [if_pos (show c ≤ cy by omega)]
  have hpt : CellsAt w X x0 x1 x2 x3 (keptAt s.kept cy) := by rw [eAt]; exact h6
  have hpk : CellsAt w X x0 x1 x2 x3 ((keptOn s.kept cy).map Prod.snd) := by rw [eOn]; unfold CellsAt; trivial
  have hky : ∀ x, keptOn s.kept cy = some x → (Value.int .i64 c) = .int .i64 x.1 := by rw [eOn]; intro x h; cases h
  have h8 := h6
  unfold CellsAt at h8
  obtain ⟨aj, cj, rfl, rfl, rfl, rfl, _, _⟩ := h8
  have u1 : (c == c) = true := by simp
  have u2 : decide (c < c) = false := decide_eq_false (by omega)
  have u3 : decide (c > c) = false := decide_eq_false (by omega)
  subst hc
  have HG := Lib.hid hag
  have e0 := blk_cell h1 0 _ rfl
  have e1 := blk_cell h1 1 _ rfl
  have e2 := blk_cell h1 2 _ rfl
  have e3 := blk_cell h1 3 _ rfl
  have e4 := blk_cell h1 4 _ rfl
  have e5 := blk_cell h1 5 _ rfl
  have e6 := blk_cell h1 6 _ rfl
  have e7 := blk_cell h1 7 _ rfl
  have e8 := blk_cell h1 8 _ rfl
  have e9 := blk_cell h1 9 _ rfl
  have e10 := blk_cell h1 10 _ rfl
  have e11 := blk_cell h1 11 _ rfl
  have e12 := blk_cell h1 12 _ rfl
  have e13 := blk_cell h1 13 _ rfl
  have e14 := blk_cell h1 14 _ rfl
  have e15 := blk_cell h1 15 _ rfl
  have e16 := blk_cell h1 16 _ rfl
  have e17 := blk_cell h1 17 _ rfl
  have e18 := blk_cell h1 18 _ rfl
  have e19 := blk_cell h1 19 _ rfl
  have f0 := blk_free h1
  have d1 : decide (c ≤ s.cy) = false := decide_eq_false hcy
  have HB := Lib.hid hbd
  have HC := Lib.hid hcy
  have HPT := Lib.hid hpt
  have HPK := Lib.hid hpk
  have HKY := Lib.hid hky
  have HHA := Lib.hid hHA
  have HKE := Lib.hid hKE
  have HXG := Lib.hid hXg
  clear hk hag hbd hcy hpt hpk hXg hky hHA hKE h6 h7 eAt eOn
  go_enter Try.func14, Try.ntmps14
  go_wp2_with fail
  refine name_calls ?_
  intro W1 hW1
  obtain ⟨k0, k1⟩ := new2 hW1
  have hWs := size2 hW1
  rw [World.size_setCell, World.size_setCell] at k0 k1 hWs
  have kg1 : W1.heap[g]? = some (.cells #[.int .i64 s.ch, .int .i64 c, .bool true, o0, o1, o2, o3, .bool s.other.isSome, t0, t1, t2, t3, .bool true, kc, .int .i64 c, .int .u64 (J.o : Int), .int .u32 (J.n : Int), .int .u32 (J.r : Int), .slice aj J.c.length cj, .bool s.broken] 56 (0, 0)) := by
    rw [hW1]; exact blk_keep (below2' _ _ _) (blk_set (blk_set h1 1 _) 2 _)
  have ho1 : Only g w W1 := by
    rw [hW1]; exact (((Only.refl g w).setCell (p := ⟨g, 1, none⟩) rfl _).setCell (p := ⟨g, 2, none⟩) rfl _).trans (Only.of_below (below2' _ _ _))
  have hin1 := hin.only HG.out ho1
  have HW1 := Lib.hid hWs
  clear hW1 hWs e0 e1 e2 e3 e4 e5 e6 e7 e8 e9 e10 e11 e12 e13 e14 e15 e16 e17 e18 e19 f0 d1
  refine (copied_is I a cap W1 hin1).mono ?_
  rintro e w1 ⟨a1, c1, rfl, hm1, hi1, hb1⟩
  have k0 := blk_keep hb1 k0
  have k1 := blk_keep hb1 k1
  have kg1 := blk_keep hb1 kg1
  have hin2 := hin1.below hb1
  have ho1 := ho1.trans (Only.of_below hb1)
  have HBL := Lib.hid (fun k hk => (hm1.blk (k := k) hk).2)
  have HS1 := Lib.hid hb1.size
  clear hb1 hin1
  have e0 := blk_cell kg1 0 _ rfl
  have e1 := blk_cell kg1 1 _ rfl
  have e2 := blk_cell kg1 2 _ rfl
  have e3 := blk_cell kg1 3 _ rfl
  have e4 := blk_cell kg1 4 _ rfl
  have e5 := blk_cell kg1 5 _ rfl
  have e6 := blk_cell kg1 6 _ rfl
  have e7 := blk_cell kg1 7 _ rfl
  have e8 := blk_cell kg1 8 _ rfl
  have e9 := blk_cell kg1 9 _ rfl
  have e10 := blk_cell kg1 10 _ rfl
  have e11 := blk_cell kg1 11 _ rfl
  have e12 := blk_cell kg1 12 _ rfl
  have e13 := blk_cell kg1 13 _ rfl
  have e14 := blk_cell kg1 14 _ rfl
  have e15 := blk_cell kg1 15 _ rfl
  have e16 := blk_cell kg1 16 _ rfl
  have e17 := blk_cell kg1 17 _ rfl
  have e18 := blk_cell kg1 18 _ rfl
  have e19 := blk_cell kg1 19 _ rfl
  have f0 := blk_free kg1
  have z0 := blk_cell k0 0 _ rfl
  have z1 := blk_cell k0 1 _ rfl
  have z2 := blk_cell k0 2 _ rfl
  have z3 := blk_cell k0 3 _ rfl
  have hg0 : ¬ g = w.heap.size := by omega
  have hg1 : ¬ g = w.heap.size + 1 := by omega
  go_wp2_with fail
  refine name_world ?_
  intro W2 hW2
  obtain ⟨kg2, ho2⟩ : W2.heap[g]? = some (.cells #[.int .i64 s.ch, .int .i64 c, .bool true, .int .u64 (I.o : Int), .int .u32 (I.n : Int), .int .u32 (I.r : Int), .slice a1 I.c.length c1, .bool true, .int .u64 (J.o : Int), .int .u32 (J.n : Int), .int .u32 (J.r : Int), .slice aj J.c.length cj, .bool false, kc, .int .i64 c, .int .u64 (J.o : Int), .int .u32 (J.n : Int), .int .u32 (J.r : Int), .slice aj J.c.length cj, .bool false] 56 (0, 0)) ∧ Only g w1 W2 := by
    rw [hW2]; exact rset15 kg1 _ _ _ _ _ _ _ _ _ _ _ _ _ _ _
  have k0 := ho2.keep (show ¬ w.heap.size = g by omega) k0
  have k1 := ho2.keep (show ¬ w.heap.size + 1 = g by omega) k1
  have hmy1 := my_only ⟨hm1, hi1⟩ ho2 (by have := HW1.out; omega)
  have hin3 := hin2.only HG.out ho2
  have ho3 := ho1.trans ho2
  have hHB : ∀ j, X j → W2.heap[j]? = w.heap[j]? := fun j hj => ho3.block j (HB.out j hj) (by rintro rfl; exact HXG.out hj)
  have HS2 := Lib.hid ho2.size
  have HHB := Lib.hid hHB
  have g0 := blk_cell kg2 0 _ rfl
  have z0 := blk_cell k0 0 _ rfl
  have z1 := blk_cell k0 1 _ rfl
  have z2 := blk_cell k0 2 _ rfl
  have z3 := blk_cell k0 3 _ rfl
  have l0 := blk_lt k0
  have l1 := blk_lt k1
  have lg := blk_lt kg2
  clear hW2 hHB e0 e1 e2 e3 e4 e5 e6 e7 e8 e9 e10 e11 e12 e13 e14 e15 e16 e17 e18 e19 f0 hm1 hi1 hin2 kg1 h1
  go_region_with ((go_at_call 26; refine (copied_is I a cap _ (hin3.below ((Below.refl _ _).drew))).mono ?_; rintro e w3 ⟨a2, c2, rfl, hm3, hi3, hb3⟩; have hb3 : Below W2.heap.size W2 w3 := (Below.refl _ _).drew.trans hb3; have k1' := blk_keep hb3 k1; have kg3 := blk_keep hb3 kg2; have g0' := blk_cell kg3 0 _ rfl; have q0 := blk_cell k1' 0 _ rfl; have q1 := blk_cell k1' 1 _ rfl; have q2 := blk_cell k1' 2 _ rfl; have q3 := blk_cell k1' 3 _ rfl; have q4 := blk_cell k1' 4 _ rfl; have q5 := blk_cell k1' 5 _ rfl; have fq := blk_free k1'))
  all_goals go_wp2_with fail
  all_goals
    have hfin := only6 w3 (w.heap.size + 1) (.int .i64 s.ch) (.int .i64 c) (.int .u64 (I.o : Int)) (.int .u32 (I.n : Int)) (.int .u32 (I.r : Int)) (.slice a2 I.c.length c2)
    refine bodyPost_ret (v := .tuple #[.agg #[.int .i64 s.ch, .int .i64 c, .int .u64 (I.o : Int), .int .u32 (I.n : Int), .int .u32 (I.r : Int), .slice a2 I.c.length c2], .int .i64 0]) (by simp [results, Try.results14, go_sem, q0, q1, q2, q3, q4, q5]) rfl ?_
    have n1 := HW1.out
    have n2 := HS1.out
    have n3 := HS2.out
    have n4 := hb3.size
    have hmy1 := my_only (my_below hb3 hmy1) hfin (by omega)
    have hmy3 := my_only ⟨hm3, hi3⟩ hfin (by show w.heap.size + 1 < W2.heap.size; omega)
    have hg3 := hfin.keep (show ¬ g = w.heap.size + 1 by omega) kg3
    refine ⟨Plus X W1.heap.size w1.heap.size, w1.heap.size, a2, c2, rfl, ?_, Plus.gr (by omega) (Nat.le_refl _), by omega, hmy3.1.mono (show w1.heap.size ≤ W2.heap.size from n3), hmy3.2, (ho3.trans (Only.of_below hb3)).after hfin (by omega)⟩
    refine HS.out.begun I c (by have := HC.out; omega) hmy1.2 (by omega) (by omega) ?_ ?_ ?_ hg3 HHA.out HKE.out HPT.out HPK.out HKY.out
    · rcases hmy1.1.form with h | ⟨b, cur, h, hB1, hB2⟩
      · exact .inl h
      · exact .inr ⟨b, h, .inr ⟨hB1, HBL.out b ⟨_, h, rfl⟩⟩⟩
    · exact Nat.le_trans (by omega) hfin.size
    · intro j hj
      have := HB.out j hj
      exact (hfin.block j (by omega) (by omega)).trans ((hb3.block j (by omega)).trans (HHB.out j hj))

set_option maxHeartbeats 2000000 in
theorem rbegin_gt (s : Side) (X : Nat → Prop) (g : Nat) (cy : Int) (I : In) (a : Option Addr) (cap : Nat) (w : World) (h : RSideAt w X g s) (hcy : ¬ cy ≤ s.cy) (hin : InAt w a cap I) (hag : I.c ≠ [] → ¬ Blk a g) (c : Int) (J : In) (hk : s.kept = some (c, J)) (hc : cy < c) :
    Calls Try.prog 14 #[.pointer (some ⟨g, 0, none⟩), .int .i64 cy, .agg #[.int .u64 (I.o : Int), .int .u32 (I.n : Int), .int .u32 (I.r : Int), .slice a I.c.length cap]] w
      fun e w' => ∃ X' M a' cap', e = .returned (.tuple #[.agg #[.int .i64 s.ch, .int .i64 cy, .int .u64 (I.o : Int), .int .u32 (I.n : Int), .int .u32 (I.r : Int), .slice a' I.c.length cap'], .int .i64 0]) ∧
        RSideAt w' X' g (s.begin cy I) ∧ Gr X X' w.heap.size M ∧ w.heap.size ≤ M ∧ MyIn w' M a' ∧ InAt w' a' cap' I ∧ Only g w w' := by
  have HS := Lib.hid h
  have hlt := h.lt
  unfold RSideAt at h
  obtain ⟨o0, o1, o2, o3, t0, t1, t2, t3, kc, ky, x0, x1, x2, x3, h1, hXg, hbd, _, _, h6, h7⟩ := h
  rw [hk] at h1 h6 h7
  have hHA : false = (keptAt s.kept cy).isSome := by rw [hk]; unfold keptAt; simp only []; rw [if_neg (show ¬ c = cy by omega)]; rfl
  have hKE : true = (keptOn s.kept cy).isSome := by rw [hk]; unfold keptOn; simp only []; rw [if_neg (show ¬ c ≤ cy by omega)]; rfl
  obtain rfl : ky = .int .i64 c := h7 (c, J) rfl
  have eAt : keptAt s.kept cy = none := by rw [hk]; unfold keptAt; simp only []; rw [if_neg (show ¬ c = cy by omega)]
  have eOn : keptOn s.kept cy = some (c, J) := by rw [hk]; unfold keptOn; simp only []; rw [if_neg (show ¬ c ≤ cy by omega)]
  have hpt : CellsAt w X (.int .u64 0) (.int .u32 0) (.int .u32 0) (.slice none 0 0) (keptAt s.kept cy) := by rw [eAt]; unfold CellsAt; trivial
  have hpk : CellsAt w X x0 x1 x2 x3 ((keptOn s.kept cy).map Prod.snd) := by rw [eOn]; exact h6
  have hky : ∀ x, keptOn s.kept cy = some x → (Value.int .i64 c) = .int .i64 x.1 := by rw [eOn]; intro x h; cases h; rfl
  have u1 : (c == cy) = false := by simpa using (show ¬ c = cy by omega)
  have u2 : decide (cy < c) = true := decide_eq_true (by omega)
  have u3 : decide (c > cy) = true := decide_eq_true (by omega)
  clear hc
  have HG := Lib.hid hag
  have e0 := blk_cell h1 0 _ rfl
  have e1 := blk_cell h1 1 _ rfl
  have e2 := blk_cell h1 2 _ rfl
  have e3 := blk_cell h1 3 _ rfl
  have e4 := blk_cell h1 4 _ rfl
  have e5 := blk_cell h1 5 _ rfl
  have e6 := blk_cell h1 6 _ rfl
  have e7 := blk_cell h1 7 _ rfl
  have e8 := blk_cell h1 8 _ rfl
  have e9 := blk_cell h1 9 _ rfl
  have e10 := blk_cell h1 10 _ rfl
  have e11 := blk_cell h1 11 _ rfl
  have e12 := blk_cell h1 12 _ rfl
  have e13 := blk_cell h1 13 _ rfl
  have e14 := blk_cell h1 14 _ rfl
  have e15 := blk_cell h1 15 _ rfl
  have e16 := blk_cell h1 16 _ rfl
  have e17 := blk_cell h1 17 _ rfl
  have e18 := blk_cell h1 18 _ rfl
  have e19 := blk_cell h1 19 _ rfl
  have f0 := blk_free h1
  have d1 : decide (cy ≤ s.cy) = false := decide_eq_false hcy
  have HB := Lib.hid hbd
  have HC := Lib.hid hcy
  have HPT := Lib.hid hpt
  have HPK := Lib.hid hpk
  have HKY := Lib.hid hky
  have HHA := Lib.hid hHA
  have HKE := Lib.hid hKE
  have HXG := Lib.hid hXg
  clear hk hag hbd hcy hpt hpk hXg hky hHA hKE h6 h7 eAt eOn
  go_enter Try.func14, Try.ntmps14
  go_wp2_with fail
  refine name_calls ?_
  intro W1 hW1
  obtain ⟨k0, k1⟩ := new2 hW1
  have hWs := size2 hW1
  rw [World.size_setCell, World.size_setCell] at k0 k1 hWs
  have kg1 : W1.heap[g]? = some (.cells #[.int .i64 s.ch, .int .i64 cy, .bool true, o0, o1, o2, o3, .bool s.other.isSome, t0, t1, t2, t3, .bool true, kc, .int .i64 c, x0, x1, x2, x3, .bool s.broken] 56 (0, 0)) := by
    rw [hW1]; exact blk_keep (below2' _ _ _) (blk_set (blk_set h1 1 _) 2 _)
  have ho1 : Only g w W1 := by
    rw [hW1]; exact (((Only.refl g w).setCell (p := ⟨g, 1, none⟩) rfl _).setCell (p := ⟨g, 2, none⟩) rfl _).trans (Only.of_below (below2' _ _ _))
  have hin1 := hin.only HG.out ho1
  have HW1 := Lib.hid hWs
  clear hW1 hWs e0 e1 e2 e3 e4 e5 e6 e7 e8 e9 e10 e11 e12 e13 e14 e15 e16 e17 e18 e19 f0 d1
  refine (copied_is I a cap W1 hin1).mono ?_
  rintro e w1 ⟨a1, c1, rfl, hm1, hi1, hb1⟩
  have k0 := blk_keep hb1 k0
  have k1 := blk_keep hb1 k1
  have kg1 := blk_keep hb1 kg1
  have hin2 := hin1.below hb1
  have ho1 := ho1.trans (Only.of_below hb1)
  have HBL := Lib.hid (fun k hk => (hm1.blk (k := k) hk).2)
  have HS1 := Lib.hid hb1.size
  clear hb1 hin1
  have e0 := blk_cell kg1 0 _ rfl
  have e1 := blk_cell kg1 1 _ rfl
  have e2 := blk_cell kg1 2 _ rfl
  have e3 := blk_cell kg1 3 _ rfl
  have e4 := blk_cell kg1 4 _ rfl
  have e5 := blk_cell kg1 5 _ rfl
  have e6 := blk_cell kg1 6 _ rfl
  have e7 := blk_cell kg1 7 _ rfl
  have e8 := blk_cell kg1 8 _ rfl
  have e9 := blk_cell kg1 9 _ rfl
  have e10 := blk_cell kg1 10 _ rfl
  have e11 := blk_cell kg1 11 _ rfl
  have e12 := blk_cell kg1 12 _ rfl
  have e13 := blk_cell kg1 13 _ rfl
  have e14 := blk_cell kg1 14 _ rfl
  have e15 := blk_cell kg1 15 _ rfl
  have e16 := blk_cell kg1 16 _ rfl
  have e17 := blk_cell kg1 17 _ rfl
  have e18 := blk_cell kg1 18 _ rfl
  have e19 := blk_cell kg1 19 _ rfl
  have f0 := blk_free kg1
  have z0 := blk_cell k0 0 _ rfl
  have z1 := blk_cell k0 1 _ rfl
  have z2 := blk_cell k0 2 _ rfl
  have z3 := blk_cell k0 3 _ rfl
  have hg0 : ¬ g = w.heap.size := by omega
  have hg1 : ¬ g = w.heap.size + 1 := by omega
  go_wp2_with fail
  refine name_world ?_
  intro W2 hW2
  obtain ⟨kg2, ho2⟩ : W2.heap[g]? = some (.cells #[.int .i64 s.ch, .int .i64 cy, .bool true, .int .u64 (I.o : Int), .int .u32 (I.n : Int), .int .u32 (I.r : Int), .slice a1 I.c.length c1, .bool false, .int .u64 0, .int .u32 0, .int .u32 0, .slice none 0 0, .bool true, kc, .int .i64 c, x0, x1, x2, x3, .bool false] 56 (0, 0)) ∧ Only g w1 W2 := by
    rw [hW2]; exact rset11 kg1 _ _ _ _ _ _ _ _ _ _ _
  have k0 := ho2.keep (show ¬ w.heap.size = g by omega) k0
  have k1 := ho2.keep (show ¬ w.heap.size + 1 = g by omega) k1
  have hmy1 := my_only ⟨hm1, hi1⟩ ho2 (by have := HW1.out; omega)
  have hin3 := hin2.only HG.out ho2
  have ho3 := ho1.trans ho2
  have hHB : ∀ j, X j → W2.heap[j]? = w.heap[j]? := fun j hj => ho3.block j (HB.out j hj) (by rintro rfl; exact HXG.out hj)
  have HS2 := Lib.hid ho2.size
  have HHB := Lib.hid hHB
  have g0 := blk_cell kg2 0 _ rfl
  have z0 := blk_cell k0 0 _ rfl
  have z1 := blk_cell k0 1 _ rfl
  have z2 := blk_cell k0 2 _ rfl
  have z3 := blk_cell k0 3 _ rfl
  have l0 := blk_lt k0
  have l1 := blk_lt k1
  have lg := blk_lt kg2
  clear hW2 hHB e0 e1 e2 e3 e4 e5 e6 e7 e8 e9 e10 e11 e12 e13 e14 e15 e16 e17 e18 e19 f0 hm1 hi1 hin2 kg1 h1
  go_region_with ((go_at_call 26; refine (copied_is I a cap _ (hin3.below ((Below.refl _ _).drew))).mono ?_; rintro e w3 ⟨a2, c2, rfl, hm3, hi3, hb3⟩; have hb3 : Below W2.heap.size W2 w3 := (Below.refl _ _).drew.trans hb3; have k1' := blk_keep hb3 k1; have kg3 := blk_keep hb3 kg2; have g0' := blk_cell kg3 0 _ rfl; have q0 := blk_cell k1' 0 _ rfl; have q1 := blk_cell k1' 1 _ rfl; have q2 := blk_cell k1' 2 _ rfl; have q3 := blk_cell k1' 3 _ rfl; have q4 := blk_cell k1' 4 _ rfl; have q5 := blk_cell k1' 5 _ rfl; have fq := blk_free k1'))
  all_goals go_wp2_with fail
  all_goals
    have hfin := only6 w3 (w.heap.size + 1) (.int .i64 s.ch) (.int .i64 cy) (.int .u64 (I.o : Int)) (.int .u32 (I.n : Int)) (.int .u32 (I.r : Int)) (.slice a2 I.c.length c2)
    refine bodyPost_ret (v := .tuple #[.agg #[.int .i64 s.ch, .int .i64 cy, .int .u64 (I.o : Int), .int .u32 (I.n : Int), .int .u32 (I.r : Int), .slice a2 I.c.length c2], .int .i64 0]) (by simp [results, Try.results14, go_sem, q0, q1, q2, q3, q4, q5]) rfl ?_
    have n1 := HW1.out
    have n2 := HS1.out
    have n3 := HS2.out
    have n4 := hb3.size
    have hmy1 := my_only (my_below hb3 hmy1) hfin (by omega)
    have hmy3 := my_only ⟨hm3, hi3⟩ hfin (by show w.heap.size + 1 < W2.heap.size; omega)
    have hg3 := hfin.keep (show ¬ g = w.heap.size + 1 by omega) kg3
    refine ⟨Plus X W1.heap.size w1.heap.size, w1.heap.size, a2, c2, rfl, ?_, Plus.gr (by omega) (Nat.le_refl _), by omega, hmy3.1.mono (show w1.heap.size ≤ W2.heap.size from n3), hmy3.2, (ho3.trans (Only.of_below hb3)).after hfin (by omega)⟩
    refine HS.out.begun I cy (by have := HC.out; omega) hmy1.2 (by omega) (by omega) ?_ ?_ ?_ hg3 HHA.out HKE.out HPT.out HPK.out HKY.out
    · rcases hmy1.1.form with h | ⟨b, cur, h, hB1, hB2⟩
      · exact .inl h
      · exact .inr ⟨b, h, .inr ⟨hB1, HBL.out b ⟨_, h, rfl⟩⟩⟩
    · exact Nat.le_trans (by omega) hfin.size
    · intro j hj
      have := HB.out j hj
      exact (hfin.block j (by omega) (by omega)).trans ((hb3.block j (by omega)).trans (HHB.out j hj))
end Go.Proofs.Ytbbacmlcimgjbaa
