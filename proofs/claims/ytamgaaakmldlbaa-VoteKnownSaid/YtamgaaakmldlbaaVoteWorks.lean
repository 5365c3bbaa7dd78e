/-
  The walk of 'works' of chapter 12's statements, and of 'ref', 'Pick'.
-/
import Derived.Test.YtamgaaakmldlbaaVotePut
import Derived.Deep.RegionHeld3
namespace Go.Proofs.Ytamgaaakmldlbaa
open Go.RowKit
attribute [local irreducible] VSt.put VSt.fin VSt.stop VSt.reset

theorem heap_new' (w : World) (o : Obj) : (w.alloc o).heap[w.heap.size]? = some o := by
  show (w.heap.push o)[w.heap.size]? = some o
  simp
theorem tmod6 (i : Int) : (i.tmod 6 + 6).tmod 6 = i % 6 := by
  have h1 := Int.tmod_eq_emod (a := i) (b := 6)
  have h2 := Int.emod_nonneg i (show (6 : Int) ≠ 0 by decide)
  have h3 := Int.emod_lt_of_pos i (show (0 : Int) < 6 by decide)
  have h4 : (i.tmod 6 + 6).tmod 6 = (i.tmod 6 + 6) % 6 := by
    refine Int.tmod_eq_emod_of_nonneg ?_
    have := Int.lt_tmod_of_pos i (show (0 : Int) < 6 by decide)
    omega
  rw [h4, h1]
  split <;> omega
theorem pick6_any (i : Int) (w : World) : Calls Try.prog 10 #[.int .i64 i, .int .i64 6] w fun e w' => e = .returned (.int .i64 (i % 6)) ∧ w = w' := by
  have h1 := Int.lt_tmod_of_pos i (show (0 : Int) < 6 by decide)
  have h2 := Int.tmod_lt_of_pos i (show (0 : Int) < 6 by decide)
  have ht := tmod6 i
  go_enter Try.func10, Try.ntmps10
  go_wp2
  go_ret
  exact ⟨rfl, rfl⟩

theorem put_is (s s' : VSt) (r : Int) (ch : Int) (c e p q : Int) (g : Nat) (w : World) (hp : s.put ch ⟨c, e, p, q⟩ = (s', r)) (h : VoteAt w g s) :
    Calls Try.prog 11 #[.pointer (some ⟨g, 0, none⟩), .int .i64 ch, .agg #[.int .i64 c, .int .i64 e, .int .u64 p, .int .u32 q]] w
      fun e w' => e = .returned (.int .i64 r) ∧ VoteAt w' g s' ∧ Only g w w' :=
  (put_any s ch ⟨c, e, p, q⟩ g w h).mono fun e w' ⟨h1, h2, h3⟩ => by rw [hp] at h1 h2; exact ⟨h1, h2, h3⟩
theorem shown_some (s : VSt) (c e p q : Int) (g : Nat) (w : World) (hs : s.shown = some ⟨c, e, p, q⟩) (h : VoteAt w g s) : Calls Try.prog 12 #[.pointer (some ⟨g, 0, none⟩)] w
    fun x w' => x = .returned (.tuple #[.agg #[.int .i64 c, .int .i64 e, .int .u64 p, .int .u32 q], .bool true]) ∧ Below w.heap.size w w' :=
  (shown_any s g w h).mono fun x w' ⟨h1, h2⟩ => by
    have hf : s.frm = ⟨c, e, p, q⟩ := by unfold VSt.frm; rw [hs]; rfl
    rw [hf, hs] at h1; exact ⟨h1, h2⟩
theorem shown_none (s : VSt) (g : Nat) (w : World) (hs : s.shown = none) (h : VoteAt w g s) : Calls Try.prog 12 #[.pointer (some ⟨g, 0, none⟩)] w
    fun x w' => x = .returned (.tuple #[.agg #[.int .i64 0, .int .i64 0, .int .u64 0, .int .u32 0], .bool false]) ∧ Below w.heap.size w w' :=
  (shown_any s g w h).mono fun x w' ⟨h1, h2⟩ => by
    have hf : s.frm = ⟨0, 0, 0, 0⟩ := by unfold VSt.frm; rw [hs]; rfl
    rw [hf, hs] at h1; exact ⟨h1, h2⟩
theorem end_is (s s' : VSt) (r : Int) (g : Nat) (w : World) (hp : s.fin = (s', r)) (h : VoteAt w g s) :
    Calls Try.prog 17 #[.pointer (some ⟨g, 0, none⟩)] w fun e w' => e = .returned (.int .i64 r) ∧ VoteAt w' g s' ∧ Only g w w' :=
  (end_any s g w h).mono fun e w' ⟨h1, h2, h3⟩ => by rw [hp] at h1 h2; exact ⟨h1, h2, h3⟩
theorem below_only {B g : Nat} {a w w' : World} (h : Below B a w) (hB : B ≤ g) (hs : B ≤ w.heap.size) (k : Only g w w') : Below B a w' := Only.below h hB hs k

set_option maxRecDepth 100000 in
set_option maxHeartbeats 2000000 in
theorem works_any (w : World) : Calls Try.prog 8 #[] w fun e w' => e = .returned (.bool true) ∧ Below w.heap.size w w' := by
  have q1 : VSt.put ⟨none, none, none, 0, false⟩ 0 ⟨1, 1, 3, 0⟩ = (⟨some ⟨1, 1, 3, 0⟩, none, none, 0, false⟩, 0) := by unfold VSt.put; rfl
  have q2 : VSt.put ⟨some ⟨1, 1, 3, 0⟩, none, none, 0, false⟩ 1 ⟨1, 1, 3, 0⟩ = (⟨none, none, some ⟨1, 1, 3, 0⟩, 1, false⟩, 0) := by unfold VSt.put; rfl
  have q3 : VSt.put ⟨none, none, some ⟨1, 1, 3, 0⟩, 1, false⟩ 0 ⟨2, 1, 0, 0⟩ = (⟨some ⟨2, 1, 0, 0⟩, none, some ⟨1, 1, 3, 0⟩, 1, false⟩, 0) := by unfold VSt.put; rfl
  have q4 : VSt.put ⟨some ⟨2, 1, 0, 0⟩, none, some ⟨1, 1, 3, 0⟩, 1, false⟩ 1 ⟨2, 2, 0, 0⟩ = (⟨none, none, none, 1, true⟩, 220) := by unfold VSt.put VSt.stop; rfl
  have q5 : VSt.put ⟨none, none, none, 1, true⟩ 0 ⟨2, 1, 0, 0⟩ = (⟨none, none, none, 1, true⟩, 220) := by unfold VSt.put; rfl
  have q6 : VSt.reset ⟨none, none, none, 1, true⟩ = ⟨none, none, none, 1, false⟩ := by unfold VSt.reset; rfl
  have q7 : VSt.put ⟨none, none, none, 1, false⟩ 0 ⟨2, 1, 0, 0⟩ = (⟨some ⟨2, 1, 0, 0⟩, none, none, 1, false⟩, 0) := by unfold VSt.put; rfl
  have q8 : VSt.fin ⟨some ⟨2, 1, 0, 0⟩, none, none, 1, false⟩ = (⟨none, none, none, 1, true⟩, 220) := by unfold VSt.fin VSt.stop; rfl
  have Q1 := Lib.hid q1
  have Q2 := Lib.hid q2
  have Q3 := Lib.hid q3
  have Q4 := Lib.hid q4
  have Q5 := Lib.hid q5
  have Q6 := Lib.hid q6
  have Q7 := Lib.hid q7
  have Q8 := Lib.hid q8
  clear q1 q2 q3 q4 q5 q6 q7 q8
  go_enter Try.func8, Try.ntmps8
  go_wp2_with fail
  refine (new_any _).mono ?_
  rintro e w1 ⟨g, rfl, hg, hv1, hb1⟩
  go_wp2_with fail
  have kF2 : ((w1.alloc (Obj.cells #[Value.int IntKind.i64 1, Value.int IntKind.i64 1, Value.int IntKind.u64 3, Value.int IntKind.u32 0] 27)).alloc (Obj.cells #[Value.int IntKind.i64 2, Value.int IntKind.i64 1, Value.int IntKind.u64 0, Value.int IntKind.u32 0] 27)).heap[w1.heap.size]? = _ := (alloc2' w1 (Obj.cells #[Value.int IntKind.i64 1, Value.int IntKind.i64 1, Value.int IntKind.u64 3, Value.int IntKind.u32 0] 27) (Obj.cells #[Value.int IntKind.i64 2, Value.int IntKind.i64 1, Value.int IntKind.u64 0, Value.int IntKind.u32 0] 27)).1
  have kG2 : ((w1.alloc (Obj.cells #[Value.int IntKind.i64 1, Value.int IntKind.i64 1, Value.int IntKind.u64 3, Value.int IntKind.u32 0] 27)).alloc (Obj.cells #[Value.int IntKind.i64 2, Value.int IntKind.i64 1, Value.int IntKind.u64 0, Value.int IntKind.u32 0] 27)).heap[w1.heap.size + 1]? = _ := (alloc2' w1 (Obj.cells #[Value.int IntKind.i64 1, Value.int IntKind.i64 1, Value.int IntKind.u64 3, Value.int IntKind.u32 0] 27) (Obj.cells #[Value.int IntKind.i64 2, Value.int IntKind.i64 1, Value.int IntKind.u64 0, Value.int IntKind.u32 0] 27)).2
  have b2 := below_on hb1 (below2' w1 (Obj.cells #[Value.int IntKind.i64 1, Value.int IntKind.i64 1, Value.int IntKind.u64 3, Value.int IntKind.u32 0] 27) (Obj.cells #[Value.int IntKind.i64 2, Value.int IntKind.i64 1, Value.int IntKind.u64 0, Value.int IntKind.u32 0] 27))
  have hv2 := hv1.below (below2' w1 (Obj.cells #[Value.int IntKind.i64 1, Value.int IntKind.i64 1, Value.int IntKind.u64 3, Value.int IntKind.u32 0] 27) (Obj.cells #[Value.int IntKind.i64 2, Value.int IntKind.i64 1, Value.int IntKind.u64 0, Value.int IntKind.u32 0] 27))
  have hg1 := hv1.lt
  obtain ⟨W2, hW2⟩ : ∃ W2, W2 = (w1.alloc (Obj.cells #[Value.int IntKind.i64 1, Value.int IntKind.i64 1, Value.int IntKind.u64 3, Value.int IntKind.u32 0] 27)).alloc (Obj.cells #[Value.int IntKind.i64 2, Value.int IntKind.i64 1, Value.int IntKind.u64 0, Value.int IntKind.u32 0] 27) := ⟨_, rfl⟩
  rw [← hW2] at kF2 kG2 b2 hv2 ⊢
  clear hW2
  have nF : w1.heap.size ≠ g := by omega
  have nG : w1.heap.size + 1 ≠ g := by omega
  have hv2d : VoteAt W2.drew g ⟨none, none, none, 0, false⟩ := hv2.below (Below.refl _ _).drew
  have kF2d : W2.drew.heap[w1.heap.size]? = _ := kF2
  go_region_held3 (fun w' => w'.cell? ⟨w1.heap.size, 0, none⟩ = some (.int .i64 1) ∧ w'.cell? ⟨w1.heap.size, 1, none⟩ = some (.int .i64 1) ∧ w'.cell? ⟨w1.heap.size, 2, none⟩ = some (.int .u64 3) ∧ w'.cell? ⟨w1.heap.size, 3, none⟩ = some (.int .u32 0))
    (first | exact ⟨blk_cell kF4 0 _ rfl, blk_cell kF4 1 _ rfl, blk_cell kF4 2 _ rfl, blk_cell kF4 3 _ rfl⟩ | exact ⟨blk_cell kF3 0 _ rfl, blk_cell kF3 1 _ rfl, blk_cell kF3 2 _ rfl, blk_cell kF3 3 _ rfl⟩ | exact ⟨blk_cell kF2d 0 _ rfl, blk_cell kF2d 1 _ rfl, blk_cell kF2d 2 _ rfl, blk_cell kF2d 3 _ rfl⟩)
    (first
      | ((with_reducible refine (put_is _ _ _ 0 1 1 3 0 g _ Q1.out hv2d).mono ?_); rintro e w3 ⟨rfl, hv3, ho3⟩; have kF3 := ho3.keep nF kF2d)
      | ((with_reducible refine (put_is _ _ _ 1 1 1 3 0 g _ Q2.out hv3).mono ?_); rintro e w4 ⟨rfl, hv4, ho4⟩; have kF4 := ho4.keep nF kF3))
  have kG4 := ho4.keep nG (ho3.keep nG (show W2.drew.heap[w1.heap.size + 1]? = _ from kG2))
  have b4 := below_only (below_only (show Below w.heap.size w W2.drew from b2.drew) hg (by have := b2.size; simpa using this) ho3) hg (by have := (below_only (show Below w.heap.size w W2.drew from b2.drew) hg (by have := b2.size; simpa using this) ho3).size; omega) ho4
  clear b2 kF2 kG2 hv2 hv2d kF2d hv1 hb1 kF3 hv3 ho3 ho4
  go_wp2_with fail
  refine (shown_some _ 1 1 3 0 g _ rfl hv4).mono ?_
  rintro e w5 ⟨rfl, hb5⟩
  have kF5 := blk_keep hb5 kF4
  have kG5 := blk_keep hb5 kG4
  have hv5 := (hv4.below hb5).below (below1 w5 (Obj.cells #[Value.int IntKind.i64 1, Value.int IntKind.i64 1, Value.int IntKind.u64 3, Value.int IntKind.u32 0] 27))
  have b5 := below_on (below_on b4 hb5) (below1 w5 (Obj.cells #[Value.int IntKind.i64 1, Value.int IntKind.i64 1, Value.int IntKind.u64 3, Value.int IntKind.u32 0] 27))
  have kX5 := heap_new' w5 (Obj.cells #[Value.int IntKind.i64 1, Value.int IntKind.i64 1, Value.int IntKind.u64 3, Value.int IntKind.u32 0] 27)
  have xG := blk_lt kG5
  have xF := blk_lt kF5
  have hgw : w.heap.size ≤ (w5.alloc (Obj.cells #[Value.int IntKind.i64 1, Value.int IntKind.i64 1, Value.int IntKind.u64 3, Value.int IntKind.u32 0] 27)).heap.size := b5.size
  have nX : w5.heap.size ≠ g := by have := hb5.size; have := hv4.lt; omega
  have eG0 := blk_cell kG5 0 _ rfl
  have eG1 := blk_cell kG5 1 _ rfl
  have eG2 := blk_cell kG5 2 _ rfl
  have eG3 := blk_cell kG5 3 _ rfl
  go_wp2_with fail
  refine (put_is _ _ _ 0 2 1 0 0 g _ Q3.out hv5).mono ?_
  rintro e w6 ⟨rfl, hv6, ho6⟩
  have kF6 := ho6.keep nF (blk_keep (below1 w5 (Obj.cells #[Value.int IntKind.i64 1, Value.int IntKind.i64 1, Value.int IntKind.u64 3, Value.int IntKind.u32 0] 27)) kF5)
  have kG6 := ho6.keep nG (blk_keep (below1 w5 (Obj.cells #[Value.int IntKind.i64 1, Value.int IntKind.i64 1, Value.int IntKind.u64 3, Value.int IntKind.u32 0] 27)) kG5)
  have kX6 := ho6.keep nX kX5
  have b6 := below_only b5 hg hgw ho6
  clear kX5 kG5 kF5 hv4 hb5 b4 kF4 kG4
  clear eG0 eG1 eG2 eG3
  go_wp2_with fail
  refine (put_is _ _ _ 1 2 2 0 0 g _ Q4.out hv6).mono ?_
  rintro e w7 ⟨rfl, hv7, ho7⟩
  have kF7 := ho7.keep nF kF6
  have kG7 := ho7.keep nG kG6
  have kX7 := ho7.keep nX kX6
  have b7 := below_only b6 hg b6.size ho7
  go_wp2_with fail
  refine (shown_none _ g _ rfl hv7).mono ?_
  rintro e w8 ⟨rfl, hb8⟩
  have hb8' := below_on hb8 (below1 w8 (Obj.cells #[Value.int IntKind.i64 0, Value.int IntKind.i64 0, Value.int IntKind.u64 0, Value.int IntKind.u32 0] 27))
  have kF8 := blk_keep hb8' kF7
  have kG8 := blk_keep hb8 kG7
  have kX8 := blk_keep hb8' kX7
  have hv8 := hv7.below hb8'
  have b8 := below_on b7 hb8'
  have xG8 := blk_lt kG8
  have eG0 := blk_cell kG8 0 _ rfl
  have eG1 := blk_cell kG8 1 _ rfl
  have eG2 := blk_cell kG8 2 _ rfl
  have eG3 := blk_cell kG8 3 _ rfl
  clear xG xF
  go_wp2_with fail
  refine (put_is _ _ _ 0 2 1 0 0 g _ Q5.out hv8).mono ?_
  rintro e w9 ⟨rfl, hv9, ho9⟩
  have kF9 := ho9.keep nF kF8
  have kG9 := ho9.keep nG (blk_keep (below1 w8 (Obj.cells #[Value.int IntKind.i64 0, Value.int IntKind.i64 0, Value.int IntKind.u64 0, Value.int IntKind.u32 0] 27)) kG8)
  have kX9 := ho9.keep nX kX8
  have b9 := below_only b8 hg b8.size ho9
  clear eG0 eG1 eG2 eG3
  clear xG8
  go_wp2_with fail
  refine (reset_any _ g _ hv9).mono ?_
  rintro e w10 ⟨rfl, hv10, ho10⟩
  rw [Q6.out] at hv10
  have kF10 := ho10.keep nF kF9
  have kG10 := ho10.keep nG kG9
  have kX10 := ho10.keep nX kX9
  have b10 := below_only b9 hg b9.size ho10
  have eG0 := blk_cell kG10 0 _ rfl
  have eG1 := blk_cell kG10 1 _ rfl
  have eG2 := blk_cell kG10 2 _ rfl
  have eG3 := blk_cell kG10 3 _ rfl
  go_wp2_with fail
  refine (put_is _ _ _ 0 2 1 0 0 g _ Q7.out hv10).mono ?_
  rintro e w11 ⟨rfl, hv11, ho11⟩
  have kF11 := ho11.keep nF kF10
  have kX11 := ho11.keep nX kX10
  have b11 := below_only b10 hg b10.size ho11
  clear eG0 eG1 eG2 eG3
  have eF0 := blk_cell kF11 0 _ rfl
  have eF1 := blk_cell kF11 1 _ rfl
  have eF2 := blk_cell kF11 2 _ rfl
  have eF3 := blk_cell kF11 3 _ rfl
  have eX0 := blk_cell kX11 0 _ rfl
  have eX1 := blk_cell kX11 1 _ rfl
  have eX2 := blk_cell kX11 2 _ rfl
  have eX3 := blk_cell kX11 3 _ rfl
  have hq := eql_frm ⟨1, 1, 3, 0⟩ ⟨1, 1, 3, 0⟩
  have hgd := frm_guard
  dsimp only at hq
  rw [decide_eq_true rfl] at hq
  go_wp2_with fail
  refine (end_is _ _ _ g _ Q8.out hv11).mono ?_
  rintro e w12 ⟨rfl, hv12, ho12⟩
  go_wp2_with fail
  go_ret
  exact ⟨rfl, below_only b11 hg b11.size ho12⟩
end Go.Proofs.Ytamgaaakmldlbaa
