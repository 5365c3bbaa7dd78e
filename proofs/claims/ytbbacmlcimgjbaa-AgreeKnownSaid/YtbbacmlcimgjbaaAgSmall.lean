/-
  Walks of chapter 20: small functions of the statements; New and Cycle.
-/
import Derived.Test.YtbbacmlcimgjbaaAgClone
namespace Go.Proofs.Ytbbacmlcimgjbaa
open Go.RowKit
attribute [local irreducible] In.ok In.same In.merge both cmdCells InAt MyIn

theorem plain_is (I : In) (ch cy : Int) (a : Option Addr) (cap : Nat) (w : World) :
    Calls Try.prog 19 #[.agg #[.int .i64 ch, .int .i64 cy, .int .u64 (I.o : Int), .int .u32 (I.n : Int), .int .u32 (I.r : Int), .slice a I.c.length cap]] w
      fun e w' => e = .returned (.agg #[.int .i64 ch, .int .i64 cy, .int .u64 (I.o : Int), .int .u32 (I.n : Int), .int .u32 (I.r : Int), .slice a I.c.length cap]) ∧ Below w.heap.size w w' := by
  go_enter Try.func19, Try.ntmps19
  go_wp2_with fail
  exact bodyPost_ret (v := .agg #[.int .i64 ch, .int .i64 cy, .int .u64 (I.o : Int), .int .u32 (I.n : Int), .int .u32 (I.r : Int), .slice a I.c.length cap]) (by simp [results, Try.results19, go_sem]) rfl ⟨rfl, below2' _ _ _⟩

theorem new2 {w W : World} {A B : Obj} (h : W = (w.alloc A).alloc B) : W.heap[w.heap.size]? = some A ∧ W.heap[w.heap.size + 1]? = some B := by
  subst h; exact alloc2' w A B
theorem size2 {w W : World} {A B : Obj} (h : W = (w.alloc A).alloc B) : W.heap.size = w.heap.size + 2 := by
  subst h
  show ((w.heap.push A).push B).size = _
  simp only [Array.size_push]

set_option maxHeartbeats 1000000 in
theorem own_is (I : In) (ch cy : Int) (a : Option Addr) (cap : Nat) (w : World) (h : InAt w a cap I) :
    Calls Try.prog 11 #[.agg #[.int .i64 ch, .int .i64 cy, .int .u64 (I.o : Int), .int .u32 (I.n : Int), .int .u32 (I.r : Int), .slice a I.c.length cap]] w
      fun e w' => ∃ a' cap', e = .returned (.agg #[.int .i64 ch, .int .i64 cy, .int .u64 (I.o : Int), .int .u32 (I.n : Int), .int .u32 (I.r : Int), .slice a' I.c.length cap']) ∧ MyIn w' w.heap.size a' ∧ InAt w' a' cap' I ∧ Below w.heap.size w w' := by
  have H := Lib.hid h
  clear h
  obtain ⟨i0, hi, hz0, hz1, hz2⟩ := info_parts info_cmd
  go_enter Try.func11, Try.ntmps11
  go_wp2_with (at_builtin; refine name_worldL ?_; intro W hW; obtain ⟨k1, k2⟩ := new2 hW; have hB := below_of_eq (below2' _ _ _) hW; have hWs := size2 hW; clear hW; refine wpList_append_src rfl _ _ 31 rfl W.heap.size 70 i0 (.agg #[.int .u8 0, .int .i64 0]) 2 16 Try.underlying31 hi hz0 hz1 hz2 rfl (by decide) (.slice none 0 0) 0 [] rfl (World.ownsRow_nil _ _ _ _) a I.c.length cap (cmdCells I.c) rfl (by rw [cmdCells_length]) (SrcAt.cmds (H.out.cmds.below hB) H.out.capNil) (by have := In.len H.out.ok; unfold maxLen; omega) (by have := In.len H.out.ok; omega) (Nat.le_refl _) ?_; intro v w2 hown hg; have hb2 : Below W.heap.size W w2 := (Below.refl _ W).grown hg (Nat.le_refl _) (by intro k hk; cases hk); rw [Nat.zero_add, List.nil_append] at hown; obtain ⟨a', c', rfl, hc'⟩ := own_form hown; have k1 := blk_keep hb2 k1; have k2 := blk_keep hb2 k2; have hB2 := below_on hB hb2; have hmy := my_of_own I rfl H.out.ok H.out.cmds.1 rfl hown; have e10 := blk_cell k1 0 _ rfl; have e11 := blk_cell k1 1 _ rfl; have e12 := blk_cell k1 2 _ rfl; have e13 := blk_cell k1 3 _ rfl; have e14 := blk_cell k1 4 _ rfl; have e15 := blk_cell k1 5 _ rfl; have e20 := blk_cell k2 0 _ rfl; have e21 := blk_cell k2 1 _ rfl; have e22 := blk_cell k2 2 _ rfl; have e23 := blk_cell k2 3 _ rfl; have e24 := blk_cell k2 4 _ rfl; have e25 := blk_cell k2 5 _ rfl; have f1 := blk_free k1; have f2 := blk_free k2; have hs2 := hb2.size; rw [hWs] at hs2; have hWl : w.heap.size + 2 ≤ W.heap.size := Nat.le_of_eq hWs.symm; clear hown hg k1 k2 hb2 hB hWs)
  refine bodyPost_ret (v := .agg #[.int .i64 ch, .int .i64 cy, .int .u64 (I.o : Int), .int .u32 (I.n : Int), .int .u32 (I.r : Int), .slice a' I.c.length c']) (by simp [results, Try.results11, go_sem, e20, e21, e22, e23, e24, e25]) rfl ?_
  refine ⟨a', c', rfl, ?_⟩
  refine and_assoc.1 ⟨my_mono (B := W.heap.size) ?_ (by omega), ?_⟩
  · repeat first
      | with_reducible exact hmy
      | ((with_reducible refine my_set ?_ ?_ _); rotate_left; (dsimp only; omega))
  · repeat first
      | with_reducible exact hB2
      | ((with_reducible refine Below.setCell ?_ ?_ _); rotate_left; (dsimp only; omega))

theorem refsame_in (I J : In) (a b : Option Addr) (ca cb : Nat) (w : World) (ha : InAt w a ca I) (hb : InAt w b cb J) :
    Calls Try.prog 22 #[.agg #[.int .u64 (I.o : Int), .int .u32 (I.n : Int), .int .u32 (I.r : Int), .slice a I.c.length ca], .agg #[.int .u64 (J.o : Int), .int .u32 (J.n : Int), .int .u32 (J.r : Int), .slice b J.c.length cb]] w
      fun e w' => e = .returned (.bool (I.same J)) ∧ Below w.heap.size w w' := by
  unfold In.same
  exact refsame_any _ _ _ _ _ _ a b I.c J.c _ _ ca cb w rfl rfl (In.len ha.ok) (In.len hb.ok) ha.cmds hb.cmds
theorem same_in (I J : In) (a b : Option Addr) (ca cb : Nat) (w : World) (ha : InAt w a ca I) (hb : InAt w b cb J) :
    Calls Try.prog 28 #[.agg #[.int .u64 (I.o : Int), .int .u32 (I.n : Int), .int .u32 (I.r : Int), .slice a I.c.length ca], .agg #[.int .u64 (J.o : Int), .int .u32 (J.n : Int), .int .u32 (J.r : Int), .slice b J.c.length cb]] w
      fun e w' => e = .returned (.bool (I.same J)) ∧ Below w.heap.size w w' := by
  unfold In.same
  exact same_any _ _ _ _ _ _ a b I.c J.c _ _ ca cb w rfl rfl (In.len ha.ok) (In.len hb.ok) ha.cmds hb.cmds

set_option maxHeartbeats 1000000 in
theorem rdsame_is (I J : In) (c1 y1 c2 y2 : Int) (a b : Option Addr) (ca cb : Nat) (w : World) (ha : InAt w a ca I) (hb : InAt w b cb J) :
    Calls Try.prog 15 #[.agg #[.int .i64 c1, .int .i64 y1, .int .u64 (I.o : Int), .int .u32 (I.n : Int), .int .u32 (I.r : Int), .slice a I.c.length ca], .agg #[.int .i64 c2, .int .i64 y2, .int .u64 (J.o : Int), .int .u32 (J.n : Int), .int .u32 (J.r : Int), .slice b J.c.length cb]] w
      fun e w' => e = .returned (.bool (c1 == c2 && y1 == y2 && I.same J)) ∧ Below w.heap.size w w' := by
  have HA := Lib.hid ha
  have HB := Lib.hid hb
  clear ha hb
  by_cases hc : c1 = c2
  · by_cases hy : y1 = y2
    · subst hc hy
      go_enter Try.func15, Try.ntmps15
      go_wp2_with fail
      refine (refsame_in I J a b ca cb _ (HA.out.below (below2' _ _ _)) (HB.out.below (below2' _ _ _))).mono ?_
      rintro e w1 ⟨rfl, hb1⟩
      have hB := below_on (below2' _ _ _) hb1
      clear hb1
      go_wp2_with fail
      go_ret
      exact ⟨by simp, hB⟩
    · have d1 : (y1 == y2) = false := by simpa using hy
      subst hc
      go_enter Try.func15, Try.ntmps15
      go_wp2_with fail
      go_ret
      exact ⟨by simp [d1], below2' _ _ _⟩
  · have d1 : (c1 == c2) = false := by simpa using hc
    go_enter Try.func15, Try.ntmps15
    go_wp2_with fail
    go_ret
    exact ⟨by simp [d1], below2' _ _ _⟩

theorem new_nil (c : Int) (w : World) (h0 : ¬ c = 0) (h1 : ¬ c = 1) : Calls Try.prog 9 #[.int .i64 c] w fun e w' => e = .returned (.pointer none) ∧ w = w' := by
  have d0 : (c == 0) = false := by simpa using h0
  have d1 : (c == 1) = false := by simpa using h1
  have d2 : (c != 0) = true := by simpa using h0
  have d3 : (c != 1) = true := by simpa using h1
  clear h0 h1
  go_enter Try.func9, Try.ntmps9
  go_wp2_with fail
  go_ret
  exact ⟨rfl, rfl⟩
theorem new_is (c : Int) (w : World) (h : c = 0 ∨ c = 1) : Calls Try.prog 9 #[.int .i64 c] w fun e w' => e = .returned (.pointer (some ⟨w.heap.size, 0, none⟩)) ∧ SideAt w' (fun _ => False) w.heap.size (Side.new c) ∧ Below w.heap.size w w' := by
  have hfin : ∀ c : Int, SideAt (w.alloc (Obj.cells #[.int .i64 c, .int .i64 0, .pointer none, .pointer none, .pointer none, .bool false] 72)) (fun _ => False) w.heap.size (Side.new c) := fun c =>
    ⟨_, _, _, heap_new1 _ _, id, fun _ h => h.elim, rfl, rfl, rfl⟩
  have HF := Lib.hid hfin
  clear hfin
  rcases h with rfl | rfl
  · go_enter Try.func9, Try.ntmps9
    go_wp2_with fail
    go_ret
    exact ⟨rfl, HF.out 0, below1 _ _⟩
  · go_enter Try.func9, Try.ntmps9
    go_wp2_with fail
    go_ret
    exact ⟨rfl, HF.out 1, below1 _ _⟩
theorem rnew_is (c : Int) (w : World) : Calls Try.prog 10 #[.int .i64 c] w fun e w' => e = .returned (.pointer (some ⟨w.heap.size, 0, none⟩)) ∧ RSideAt w' (fun _ => False) w.heap.size (Side.new c) ∧ Below w.heap.size w w' := by
  go_enter Try.func10, Try.ntmps10
  go_wp2_with fail
  go_ret
  exact ⟨rfl, ⟨_, _, _, _, _, _, _, _, _, _, _, _, _, _, heap_new1 _ _, id, fun _ h => h.elim, trivial, trivial, trivial, fun _ h => by cases h⟩, below1 _ _⟩
theorem cycle_nil (w : World) : Calls Try.prog 23 #[.pointer none] w fun e w' => e = .returned (.int .i64 0) ∧ w = w' := by
  go_enter Try.func23, Try.ntmps23
  go_wp2_with fail
  go_ret
  exact ⟨rfl, rfl⟩
theorem cycle_is (s : Side) (X : Nat → Prop) (g : Nat) (w : World) (h : SideAt w X g s) : Calls Try.prog 23 #[.pointer (some ⟨g, 0, none⟩)] w fun e w' => e = .returned (.int .i64 s.cy) ∧ w = w' := by
  obtain ⟨po, pt, pk, h1, _⟩ := h
  have e1 := blk_cell h1 1 _ rfl
  clear h1
  go_enter Try.func23, Try.ntmps23
  go_wp2_with fail
  go_ret
  exact ⟨rfl, rfl⟩
end Go.Proofs.Ytbbacmlcimgjbaa
