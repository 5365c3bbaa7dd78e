/-
  Walks of chapter 20: small functions.
-/
import Derived.Test.YtbbacmlcimgjbaaAg
namespace Go.Proofs.Ytbbacmlcimgjbaa
open Go.RowKit
attribute [local irreducible] In.ok In.same In.merge both cmdCells InAt MyIn

theorem In.len {I : In} (h : I.ok) : I.c.length ≤ 1000 := by unfold In.ok at h; exact h.2.2.2
theorem InAt.ok {w : World} {a : Option Addr} {cap : Nat} {I : In} (h : InAt w a cap I) : I.ok := by unfold InAt at h; exact h.1
theorem InAt.cmds {w : World} {a : Option Addr} {cap : Nat} {I : In} (h : InAt w a cap I) : CmdsAt w a I.c := by unfold InAt at h; exact h.2.1
theorem InAt.capNil {w : World} {a : Option Addr} {cap : Nat} {I : In} (h : InAt w a cap I) : a = none → cap = 0 := by unfold InAt at h; exact h.2.2

theorem name_worldL {P : Program} {ops : Array Oper} {Q : Exit → Act → World → Prop} {rest : List Oper} {a : Act} {w : World} (h : ∀ W, W = w → wpList P ops Q rest a W) : wpList P ops Q rest a w := h w rfl
theorem new3 {w W : World} {A B C : Obj} (h : W = ((w.alloc A).alloc B).alloc C) : W.heap[w.heap.size]? = some A ∧ W.heap[w.heap.size + 1]? = some B ∧ W.heap[w.heap.size + 1 + 1]? = some C := by
  subst h; exact alloc3 w A B C (Below.refl _ _)
theorem size3 {w W : World} {A B C : Obj} (h : W = ((w.alloc A).alloc B).alloc C) : W.heap.size = w.heap.size + 3 := by
  subst h
  show (((w.heap.push A).push B).push C).size = _
  simp only [Array.size_push]
theorem below_of_eq {B : Nat} {a w W : World} (h : Below B a w) (e : W = w) : Below B a W := e ▸ h
theorem my_set {w : World} {B : Nat} {a : Option Addr} {cap : Nat} {I : In} (m : MyIn w B a ∧ InAt w a cap I) {p : Addr} (hp : p.block < B) (u : Value) : MyIn (w.setCell p u) B a ∧ InAt (w.setCell p u) a cap I := by
  have hk : ∀ k, Blk a k → (w.setCell p u).heap[k]? = w.heap[k]? := fun k hk => Below.heap_setCell _ _ _ _ (by have := (m.1.blk hk).1; omega)
  exact ⟨m.1.keep hk, m.2.keepMy m.1 hk⟩
theorem my_mono {w : World} {B C : Nat} {a : Option Addr} {cap : Nat} {I : In} (m : MyIn w B a ∧ InAt w a cap I) (h : C ≤ B) : MyIn w C a ∧ InAt w a cap I := ⟨m.1.mono h, m.2⟩
theorem my_below {w w' : World} {B : Nat} {a : Option Addr} {cap : Nat} {I : In} (hb : Below w.heap.size w w') (m : MyIn w B a ∧ InAt w a cap I) : MyIn w' B a ∧ InAt w' a cap I := ⟨m.1.below hb, m.2.below hb⟩

set_option maxHeartbeats 1000000 in
theorem clone_is (I : In) (ch cy : Int) (a : Option Addr) (cap : Nat) (w : World) (h : InAt w a cap I) :
    Calls Try.prog 25 #[.agg #[.int .i64 ch, .int .i64 cy, .int .u64 (I.o : Int), .int .u32 (I.n : Int), .int .u32 (I.r : Int), .slice a I.c.length cap]] w
      fun e w' => ∃ k a' cap', e = .returned (.pointer (some ⟨k, 0, none⟩)) ∧ w'.heap[k]? = some (.cells #[.int .i64 ch, .int .i64 cy, .int .u64 (I.o : Int), .int .u32 (I.n : Int), .int .u32 (I.r : Int), .slice a' I.c.length cap'] 35 (0, 0)) ∧
        w.heap.size ≤ k ∧ ¬ Blk a' k ∧ MyIn w' w.heap.size a' ∧ InAt w' a' cap' I ∧ Below w.heap.size w w' := by
  have H := Lib.hid h
  clear h
  go_enter Try.func25, Try.ntmps25
  go_wp2_with fail
  refine (clone_any a I.c _ cap _ rfl (In.len H.out.ok) H.out.capNil (H.out.cmds.below (below1 _ _))).mono ?_
  rintro e w1 ⟨a', c', rfl, hc', hown, hb1⟩
  have k0 := blk_keep hb1 (heap_new1 w (Obj.cells #[.int .i64 ch, .int .i64 cy, .int .u64 (I.o : Int), .int .u32 (I.n : Int), .int .u32 (I.r : Int), .slice a I.c.length cap] 35))
  have hB1 := below_on (below1 _ _) hb1
  have e0 := blk_cell k0 5 _ rfl
  have f0 := blk_free k0
  have hs1 : w.heap.size + 1 ≤ w1.heap.size := by have := hb1.size; simp at this; omega
  have hmy := my_of_own I rfl H.out.ok H.out.cmds.1 rfl hown
  have HM := Lib.hid hmy
  have hnb : ¬ Blk a' w.heap.size := fun hk => by
    have := (hmy.1.blk hk).1
    simp at this; omega
  clear hb1 hown hmy
  go_wp2_with fail
  go_ret
  refine ⟨w.heap.size, a', c', rfl, blk_set k0 5 _, Nat.le_refl _, hnb, ?_, ?_, ?_⟩
  · refine (HM.out.1.keep (fun k hk => Below.heap_setCell _ _ _ _ ?_)).mono (by simp)
    rintro rfl; exact hnb hk
  · refine HM.out.2.keepMy HM.out.1 (fun k hk => Below.heap_setCell _ _ _ _ ?_)
    rintro rfl; exact hnb hk
  · exact hB1.setCell (by dsimp only; omega) _

set_option maxHeartbeats 1000000 in
theorem copied_is (I : In) (a : Option Addr) (cap : Nat) (w : World) (h : InAt w a cap I) :
    Calls Try.prog 26 #[.agg #[.int .u64 (I.o : Int), .int .u32 (I.n : Int), .int .u32 (I.r : Int), .slice a I.c.length cap]] w
      fun e w' => ∃ a' cap', e = .returned (.agg #[.int .u64 (I.o : Int), .int .u32 (I.n : Int), .int .u32 (I.r : Int), .slice a' I.c.length cap']) ∧ MyIn w' w.heap.size a' ∧ InAt w' a' cap' I ∧ Below w.heap.size w w' := by
  have H := Lib.hid h
  clear h
  obtain ⟨i0, hi, hz0, hz1, hz2⟩ := info_parts info_cmd
  go_enter Try.func26, Try.ntmps26
  go_wp2_with (at_builtin; refine name_worldL ?_; intro W hW; obtain ⟨k0, k1, k2⟩ := new3 hW; have hB := below_of_eq (below3 _ _ _ _) hW; have hWs := size3 hW; clear hW; refine wpList_append_src rfl _ _ 31 rfl W.heap.size 70 i0 (.agg #[.int .u8 0, .int .i64 0]) 2 16 Try.underlying31 hi hz0 hz1 hz2 rfl (by decide) (.slice none 0 0) 0 [] rfl (World.ownsRow_nil _ _ _ _) a I.c.length cap (cmdCells I.c) rfl (by rw [cmdCells_length]) (SrcAt.cmds (H.out.cmds.below hB) H.out.capNil) (by have := In.len H.out.ok; unfold maxLen; omega) (by have := In.len H.out.ok; omega) (Nat.le_refl _) ?_; intro v w2 hown hg; have hb2 : Below W.heap.size W w2 := (Below.refl _ W).grown hg (Nat.le_refl _) (by intro k hk; cases hk); rw [Nat.zero_add, List.nil_append] at hown; obtain ⟨a', c', rfl, hc'⟩ := own_form hown; have k1 := blk_keep hb2 k1; have k2 := blk_keep hb2 k2; have hB2 := below_on hB hb2; have hmy := my_of_own I rfl H.out.ok H.out.cmds.1 rfl hown; have e10 := blk_cell k1 0 _ rfl; have e11 := blk_cell k1 1 _ rfl; have e12 := blk_cell k1 2 _ rfl; have e13 := blk_cell k1 3 _ rfl; have e20 := blk_cell k2 0 _ rfl; have e21 := blk_cell k2 1 _ rfl; have e22 := blk_cell k2 2 _ rfl; have e23 := blk_cell k2 3 _ rfl; have f1 := blk_free k1; have f2 := blk_free k2; have hs2 := hb2.size; rw [hWs] at hs2; have hWl : w.heap.size + 3 ≤ W.heap.size := Nat.le_of_eq hWs.symm; clear hown hg k0 k1 k2 hb2 hB hWs)
  refine bodyPost_ret (v := .agg #[.int .u64 (I.o : Int), .int .u32 (I.n : Int), .int .u32 (I.r : Int), .slice a' I.c.length c']) (by simp [results, Try.results26, go_sem, e10, e11, e12, e13]) rfl ?_
  refine ⟨a', c', rfl, ?_⟩
  refine and_assoc.1 ⟨my_mono (B := W.heap.size) ?_ (by omega), ?_⟩
  · repeat first
      | with_reducible exact hmy
      | ((with_reducible refine my_set ?_ ?_ _); rotate_left; (dsimp only; omega))
  · repeat first
      | with_reducible exact hB2
      | ((with_reducible refine Below.setCell ?_ ?_ _); rotate_left; (dsimp only; omega))

theorem tmodn (i n : Int) (hn : 0 < n) : (i.tmod n + n).tmod n = i % n := by
  have h1 := Int.tmod_eq_emod (a := i) (b := n)
  have h2 := Int.lt_tmod_of_pos i hn
  have h4 : (i.tmod n + n).tmod n = (i.tmod n + n) % n := Int.tmod_eq_emod_of_nonneg (by omega)
  rw [h4, Int.add_emod_right, h1]
  split
  · simp
  · rw [show (n.natAbs : Int) = n by omega, Int.sub_emod_right, Int.emod_emod]
theorem pick_any (i n : Int) (w : World) (hn : 0 < n) (hm : n < 1000) : Calls Try.prog 12 #[.int .i64 i, .int .i64 n] w fun e w' => e = .returned (.int .i64 (i % n)) ∧ w = w' := by
  have h1 := Int.lt_tmod_of_pos i hn
  have h2 := Int.tmod_lt_of_pos i hn
  have ht := tmodn i n hn
  have h3 : ¬ n = 0 := by omega
  have h4 : ¬ n ≤ 0 := by omega
  have h5 : wrap64 (i.tmod n + n) = i.tmod n + n := by unfold wrap64; omega
  have h6 : wrap64 (i.tmod n) = i.tmod n := by unfold wrap64; omega
  have h7 : wrap64 (i % n) = i % n := by
    have a1 := Int.emod_nonneg i h3
    have a2 := Int.emod_lt_of_pos i hn
    unfold wrap64; omega
  go_enter Try.func12, Try.ntmps12
  go_wp2
  go_ret
  exact ⟨rfl, rfl⟩
end Go.Proofs.Ytbbacmlcimgjbaa
