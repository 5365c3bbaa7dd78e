/-
  The walk of 'works' of chapter 20's statements.
-/
import Derived.Test.YtbbacmlcimgjbaaAgAny
import Derived.Deep.RegionHeld3
namespace Go.Proofs.Ytbbacmlcimgjbaa
open Go.RowKit
attribute [local irreducible] shortB fewB In.ok InAt MyIn LongAt In.same both cmdCells SideAt OptAt RdAt RSideAt CellsAt In.merge

theorem begin_is (s s' : Side) (X : Nat → Prop) (g : Nat) (cy c' y' r : Int) (I I' : In) (o n q o' n' q' : Int) (a : Option Addr) (l l' cap : Nat) (w : World) (h : SideAt w X g s) (hin : InAt w a cap I) (hag : I.c ≠ [] → ¬ Blk a g)
    (e1 : (I.o : Int) = o) (e2 : (I.n : Int) = n) (e3 : (I.r : Int) = q) (e4 : I.c.length = l) (hs : s.begin cy I = s') (hc : s.bCh cy = c') (hy : s.bCy cy = y') (hi : s.bIn cy I = I') (hr : s.bCode cy = r)
    (f1 : (I'.o : Int) = o') (f2 : (I'.n : Int) = n') (f3 : (I'.r : Int) = q') (f4 : I'.c.length = l') :
    Calls Try.prog 13 #[.pointer (some ⟨g, 0, none⟩), .int .i64 cy, .agg #[.int .u64 o, .int .u32 n, .int .u32 q, .slice a l cap]] w
      fun e w' => ∃ X' M a' cap', e = .returned (.tuple #[.agg #[.int .i64 c', .int .i64 y', .int .u64 o', .int .u32 n', .int .u32 q', .slice a' l' cap'], .int .i64 r]) ∧
        SideAt w' X' g s' ∧ Gr X X' w.heap.size M ∧ w.heap.size ≤ M ∧ MyIn w' M a' ∧ InAt w' a' cap' I' ∧ Only g w w' := by
  subst e1 e2 e3 e4 hs hc hy hi hr f1 f2 f3 f4
  exact begin_any s X g cy I a cap w h hin hag
theorem hear_is (s s' : Side) (X : Nat → Prop) (g : Nat) (ch cy r : Int) (I : In) (o n q : Int) (a : Option Addr) (l cap : Nat) (w : World) (h : SideAt w X g s) (hch : s.ch = 0 ∨ s.ch = 1) (hin : InAt w a cap I)
    (e1 : (I.o : Int) = o) (e2 : (I.n : Int) = n) (e3 : (I.r : Int) = q) (e4 : I.c.length = l) (hs : s.hear ch cy I = (s', r)) :
    Calls Try.prog 17 #[.pointer (some ⟨g, 0, none⟩), .iface 35 (.agg #[.int .i64 ch, .int .i64 cy, .int .u64 o, .int .u32 n, .int .u32 q, .slice a l cap])] w
      fun e w' => ∃ X' M, e = .returned (.int .i64 r) ∧ SideAt w' X' g s' ∧ Gr X X' w.heap.size M ∧ M ≤ w'.heap.size ∧ Only g w w' := by
  subst e1 e2 e3 e4
  refine (hear_any s X g ch cy I a cap w h hch hin).mono ?_
  rintro e w' ⟨X', M, h1, h2, h3, h4, h5⟩
  rw [hs] at h1 h2
  exact ⟨X', M, h1, h2, h3, h4, h5⟩
theorem merged_is (s : Side) (X : Nat → Prop) (g : Nat) (I : In) (b : Bool) (o n q : Int) (l : Nat) (w : World) (h : SideAt w X g s) (hi : s.mIn = I) (hb : s.mOk = b) (e1 : (I.o : Int) = o) (e2 : (I.n : Int) = n) (e3 : (I.r : Int) = q) (e4 : I.c.length = l) :
    Calls Try.prog 20 #[.pointer (some ⟨g, 0, none⟩)] w fun e w' => ∃ a' c', e = .returned (.tuple #[.agg #[.int .u64 o, .int .u32 n, .int .u32 q, .slice a' l c'], .bool b]) ∧ MyIn w' w.heap.size a' ∧ InAt w' a' c' I ∧ Below w.heap.size w w' := by
  subst e1 e2 e3 e4 hi hb
  exact merged_any s X g w h
theorem Gr.not {X X' : Nat → Prop} {lo hi g : Nat} (h : Gr X X' lo hi) (hx : ¬ X g) (hg : g < lo) : ¬ X' g := fun hj => by
  rcases h g hj with h | h
  · exact hx h
  · omega
theorem inAt_nilc {w w' : World} {a : Option Addr} {cap : Nat} {I : In} (h : InAt w a cap I) (hc : I.c = []) : InAt w' a cap I := by
  unfold InAt at *
  exact ⟨h.1, ⟨by rw [hc]; simp, .inl hc⟩, h.2.2⟩
theorem blk_none (k : Nat) : ¬ Blk none k := by rintro ⟨x, h, _⟩; cases h
def iA : In := ⟨1, 0, 0, []⟩
def iB : In := ⟨2, 0, 0, []⟩
def iC : In := ⟨3, 0, 0, []⟩
theorem i_in (w : World) (o : Nat) (ho : o < 10) : InAt w none 0 ⟨o, 0, 0, []⟩ := by
  unfold InAt In.ok
  exact ⟨⟨by simp only; omega, by simp only; omega, by simp only; omega, by simp⟩, ⟨by simp, .inl rfl⟩, fun _ => rfl⟩

set_option maxRecDepth 100000 in
set_option maxHeartbeats 4000000 in
theorem works_any (w : World) : Calls Try.prog 8 #[] w fun e w' => e = .returned (.bool true) ∧ Below w.heap.size w w' := by
  have e1 : (Side.new 0).begin 1 iA = ⟨0, 1, some iA, none, none, false⟩ := rfl
  have e2 : (Side.new 1).begin 1 iB = ⟨1, 1, some iB, none, none, false⟩ := rfl
  have e3 : Side.hear ⟨0, 1, some iA, none, none, false⟩ 1 1 iB = (⟨0, 1, some iA, some iB, none, false⟩, 0) := rfl
  have e4 : Side.hear ⟨1, 1, some iB, none, none, false⟩ 0 1 iA = (⟨1, 1, some iB, some iA, none, false⟩, 0) := rfl
  have e5 : Side.mIn ⟨0, 1, some iA, some iB, none, false⟩ = iC := by unfold Side.mIn In.merge both; rfl
  have e6 : Side.mIn ⟨1, 1, some iB, some iA, none, false⟩ = iC := by unfold Side.mIn In.merge both; rfl
  have e7 : Side.hear ⟨0, 1, some iA, some iB, none, false⟩ 0 1 iA = (⟨0, 1, some iA, some iB, none, false⟩, 2) := rfl
  have e8 : Side.hear ⟨0, 1, some iA, some iB, none, false⟩ 1 1 In.zero = (⟨0, 1, some iA, some iB, none, true⟩, 4) := by unfold Side.hear In.same; rfl
  have E1 := Lib.hid e1
  have E2 := Lib.hid e2
  have E3 := Lib.hid e3
  have E4 := Lib.hid e4
  have E5 := Lib.hid e5
  have E6 := Lib.hid e6
  have E7 := Lib.hid e7
  have E8 := Lib.hid e8
  clear e1 e2 e3 e4 e5 e6 e7 e8
  go_enter Try.func8, Try.ntmps8
  go_wp2_with fail
  refine (new_is 0 w (.inl rfl)).mono ?_
  rintro e w1 ⟨rfl, hA, hb1⟩
  obtain ⟨gA, hgA⟩ : ∃ gA, gA = w.heap.size := ⟨_, rfl⟩
  rw [← hgA] at hA ⊢
  have hAl := hA.lt
  have HGA := Lib.hid hgA
  clear hgA
  go_wp2_with fail
  refine (new_is 1 w1 (.inr rfl)).mono ?_
  rintro e w2 ⟨rfl, hB, hb2⟩
  obtain ⟨gB, hgB⟩ : ∃ gB, gB = w1.heap.size := ⟨_, rfl⟩
  rw [← hgB] at hB ⊢
  have hA := hA.below hb2
  have hAB : ¬ gA = gB := by omega
  have hBA : ¬ gB = gA := by omega
  have hBl := hB.lt
  have hb := below_on hb1 hb2
  have HGB := Lib.hid (show gA ≤ gB by omega)
  clear hgB hb1 hb2 hAl
  go_wp2_with fail
  refine (begin_is _ _ _ gA 1 0 1 0 iA iA 1 0 0 1 0 0 none 0 0 0 w2 hA (i_in _ 1 (by omega)) (fun _ => blk_none _) rfl rfl rfl rfl E1.out rfl rfl rfl rfl rfl rfl rfl rfl).mono ?_
  rintro e w3 ⟨XA, M, ar, cr, rfl, hA, hgr, _, _, hir, ho⟩
  have hB := hB.only ho hBA (fun h => h)
  have hb := Only.below hb (Nat.le_of_eq HGA.out.symm) hb.size ho
  have nA : ¬ XA gB := hgr.not (fun h => h) hBl
  have hlA := hA.lt
  have hlB := hB.lt
  clear hgr ho hBl
  go_wp2_with fail
  refine name_calls ?_
  intro W4 hW4
  have kr : W4.heap[w3.heap.size]? = some (.cells #[.int .i64 0, .int .i64 1, .int .u64 1, .int .u32 0, .int .u32 0, .slice ar 0 cr] 35 (0, 0)) := by rw [hW4]; exact heap_new1 _ _
  have hb34 : Below w3.heap.size w3 W4 := by rw [hW4]; exact below1 _ _
  obtain ⟨zr, hzr⟩ : ∃ zr, zr = w3.heap.size := ⟨_, rfl⟩
  have hA := hA.below hb34
  have hB := hB.below hb34
  have hb := hb.trans (hb34.mono hb.size)
  have hzA : ¬ zr = gA := by omega
  have hzB : ¬ zr = gB := by omega
  rw [← hzr] at kr ⊢
  have hlA := hA.lt
  clear hzr hW4 hb34 hlB
  refine (begin_is _ _ _ gB 1 1 1 0 iB iB 2 0 0 2 0 0 none 0 0 0 W4 hB (i_in _ 2 (by omega)) (fun _ => blk_none _) rfl rfl rfl rfl E2.out rfl rfl rfl rfl rfl rfl rfl rfl).mono ?_
  rintro e w5 ⟨XB, M5, aS, cs, rfl, hB, hgr, _, _, his, ho⟩
  have hA := hA.only ho hAB nA
  have kr := ho.keep hzB kr
  have nB : ¬ XB gA := hgr.not (fun h => h) hlA
  have hwB : w.heap.size ≤ gB := Nat.le_trans (Nat.le_of_eq HGA.out.symm) HGB.out
  have HWB := Lib.hid hwB
  have hb := Only.below hb hwB hb.size ho
  clear hgr ho hlA hwB
  go_wp2_with fail
  refine name_world ?_
  intro W6 hW6
  have ks : W6.heap[w5.heap.size]? = some (.cells #[.int .i64 1, .int .i64 1, .int .u64 2, .int .u32 0, .int .u32 0, .slice aS 0 cs] 35 (0, 0)) := by rw [hW6]; exact heap_new1 _ _
  have hb56 : Below w5.heap.size w5 W6 := by rw [hW6]; exact below1 _ _
  obtain ⟨zs, hzs⟩ : ∃ zs, zs = w5.heap.size := ⟨_, rfl⟩
  have hsA : ¬ zs = gA := by have := hA.lt; omega
  have hsB : ¬ zs = gB := by have := hB.lt; omega
  have hb56 := hb56.drew
  have hA := hA.below hb56
  have hB := hB.below hb56
  have kr := blk_keep hb56 kr
  have hb := hb.trans (hb56.mono hb.size)
  rw [← hzs] at ks ⊢
  have ks : W6.drew.heap[zs]? = _ := ks
  clear hzs hW6 hb56
  go_region_held3 (fun w' => w'.cell? ⟨zr, 0, none⟩ = some (.int .i64 0) ∧ w'.cell? ⟨zr, 1, none⟩ = some (.int .i64 1) ∧ w'.cell? ⟨zr, 2, none⟩ = some (.int .u64 1) ∧ w'.cell? ⟨zr, 3, none⟩ = some (.int .u32 0) ∧ w'.cell? ⟨zr, 4, none⟩ = some (.int .u32 0) ∧ w'.cell? ⟨zr, 5, none⟩ = some (.slice ar 0 cr) ∧
      w'.cell? ⟨zs, 0, none⟩ = some (.int .i64 1) ∧ w'.cell? ⟨zs, 1, none⟩ = some (.int .i64 1) ∧ w'.cell? ⟨zs, 2, none⟩ = some (.int .u64 2) ∧ w'.cell? ⟨zs, 3, none⟩ = some (.int .u32 0) ∧ w'.cell? ⟨zs, 4, none⟩ = some (.int .u32 0) ∧ w'.cell? ⟨zs, 5, none⟩ = some (.slice aS 0 cs))
    (first
      | exact ⟨blk_cell kr8 0 _ rfl, blk_cell kr8 1 _ rfl, blk_cell kr8 2 _ rfl, blk_cell kr8 3 _ rfl, blk_cell kr8 4 _ rfl, blk_cell kr8 5 _ rfl, blk_cell ks8 0 _ rfl, blk_cell ks8 1 _ rfl, blk_cell ks8 2 _ rfl, blk_cell ks8 3 _ rfl, blk_cell ks8 4 _ rfl, blk_cell ks8 5 _ rfl⟩
      | exact ⟨blk_cell kr7 0 _ rfl, blk_cell kr7 1 _ rfl, blk_cell kr7 2 _ rfl, blk_cell kr7 3 _ rfl, blk_cell kr7 4 _ rfl, blk_cell kr7 5 _ rfl, blk_cell ks7 0 _ rfl, blk_cell ks7 1 _ rfl, blk_cell ks7 2 _ rfl, blk_cell ks7 3 _ rfl, blk_cell ks7 4 _ rfl, blk_cell ks7 5 _ rfl⟩
      | exact ⟨blk_cell kr 0 _ rfl, blk_cell kr 1 _ rfl, blk_cell kr 2 _ rfl, blk_cell kr 3 _ rfl, blk_cell kr 4 _ rfl, blk_cell kr 5 _ rfl, blk_cell ks 0 _ rfl, blk_cell ks 1 _ rfl, blk_cell ks 2 _ rfl, blk_cell ks 3 _ rfl, blk_cell ks 4 _ rfl, blk_cell ks 5 _ rfl⟩)
    (first
      | ((with_reducible refine (hear_is _ _ _ gA 1 1 0 iB 2 0 0 aS 0 cs _ hA (.inl rfl) (inAt_nilc his rfl) rfl rfl rfl rfl E3.out).mono ?_); rintro e w7 ⟨XA7, M7, rfl, hA7, hgr7, _, ho7⟩; have kr7 := ho7.keep hzA kr; have ks7 := ho7.keep hsA ks; have hB7 := hB.only ho7 hBA nB; have nA7 := hgr7.not nA hB.lt; have nB7 := hB.lt)
      | ((with_reducible refine (hear_is _ _ _ gB 0 1 0 iA 1 0 0 ar 0 cr _ hB7 (.inr rfl) (inAt_nilc hir rfl) rfl rfl rfl rfl E4.out).mono ?_); rintro e w8 ⟨XB8, M8, rfl, hB8, hgr8, _, ho8⟩; have kr8 := ho8.keep hzB kr7; have ks8 := ho8.keep hsB ks7; have hA8 := hA7.only ho8 hAB nA7; have nB8 := hgr8.not nB hA7.lt))
  have hb := Only.below (Only.below hb (Nat.le_of_eq HGA.out.symm) hb.size ho7) HWB.out (Nat.le_trans hb.size ho7.size) ho8
  clear kr kr7 ks ks7 ks8 ho7 ho8 hgr7 hgr8 hA hA7 hB hB7 nA nB nA7 nB7 hsA hsB
  go_wp2_with fail
  refine (merged_is _ _ gA iC true 3 0 0 0 w8 hA8 E5.out rfl rfl rfl rfl rfl).mono ?_
  rintro e w9 ⟨ax, cx, rfl, _, _, hb9⟩
  have kr9 := blk_keep hb9 kr8
  have hA9 := hA8.below hb9
  have hB9 := hB8.below hb9
  have hb := hb.trans (hb9.mono hb.size)
  clear hb9 kr8 hA8 hB8
  go_wp2_with fail
  refine name_calls ?_
  intro W10 hW10
  have kx : W10.heap[w9.heap.size]? = some (.cells #[.int .u64 3, .int .u32 0, .int .u32 0, .slice ax 0 cx] 33 (0, 0)) := by rw [hW10]; exact heap_new1 _ _
  have hb10 : Below w9.heap.size w9 W10 := by rw [hW10]; exact below1 _ _
  obtain ⟨zx, hzx⟩ : ∃ zx, zx = w9.heap.size := ⟨_, rfl⟩
  have hxA : ¬ zx = gA := by have := hA9.lt; omega
  have kr10 := blk_keep hb10 kr9
  have hA10 := hA9.below hb10
  have hB10 := hB9.below hb10
  have hb := hb.trans (hb10.mono hb.size)
  rw [← hzx] at kx ⊢
  clear hzx hW10 hb10 kr9 hA9 hB9
  refine (merged_is _ _ gB iC true 3 0 0 0 W10 hB10 E6.out rfl rfl rfl rfl rfl).mono ?_
  rintro e w11 ⟨ay, cy, rfl, _, _, hb11⟩
  have kr11 := blk_keep hb11 kr10
  have kx11 := blk_keep hb11 kx
  have hA11 := hA10.below hb11
  have hb := hb.trans (hb11.mono hb.size)
  have x0 := blk_cell kx11 0 _ rfl
  have hxl := blk_lt kx11
  clear hb11 kr10 kx hA10 hB10
  have ha1 := assert_str
  go_wp2_with fail
  refine name_calls ?_
  intro W12 hW12
  have hb12 : Below w11.heap.size w11 W12 := by rw [hW12]; exact below1 _ _
  have kr12 := blk_keep hb12 kr11
  have hA12 := hA11.below hb12
  have hb := hb.trans (hb12.mono hb.size)
  clear hb12 hW12 kr11 kx11 hA11 x0 hxl
  refine (hear_other gA _ W12 (assert_str _)).mono ?_
  rintro e w13 ⟨rfl, hb13⟩
  have kr13 := blk_keep hb13 kr12
  have hA13 := hA12.below hb13
  have hb := hb.trans (hb13.mono hb.size)
  have r0 := blk_cell kr13 0 _ rfl
  have r1 := blk_cell kr13 1 _ rfl
  have r2 := blk_cell kr13 2 _ rfl
  have r3 := blk_cell kr13 3 _ rfl
  have r4 := blk_cell kr13 4 _ rfl
  have r5 := blk_cell kr13 5 _ rfl
  clear hb13 kr12 hA12
  go_wp2_with fail
  refine (hear_is _ _ _ gA 0 1 2 iA 1 0 0 ar 0 cr _ hA13 (.inl rfl) (inAt_nilc hir rfl) rfl rfl rfl rfl E7.out).mono ?_
  rintro e w14 ⟨XA14, M14, rfl, hA14, _, _, ho14⟩
  have hb := Only.below hb (Nat.le_of_eq HGA.out.symm) hb.size ho14
  clear ho14 r0 r1 r2 r3 r4 r5 kr13 hA13
  go_wp2_with fail
  refine (hear_is _ _ _ gA 1 1 4 In.zero 0 0 0 none 0 0 _ hA14 (.inl rfl) (zero_in _) rfl rfl rfl rfl E8.out).mono ?_
  rintro e w15 ⟨XA15, M15, rfl, hA15, _, _, ho15⟩
  have hb := Only.below hb (Nat.le_of_eq HGA.out.symm) hb.size ho15
  clear ho15 hA14
  go_wp2_with fail
  refine (cycle_is _ _ gA _ hA15).mono ?_
  rintro e w16 ⟨rfl, rfl⟩
  go_wp2_with fail
  go_ret
  exact ⟨rfl, hb⟩
end Go.Proofs.Ytbbacmlcimgjbaa
