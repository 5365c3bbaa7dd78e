/-
  Walks of the statements VoteUnlike, VoteNone of chapter 12.
-/
import Derived.Test.YtamgaaakmldlbaaVoteWorks
import Derived.Test.YtamgaaakmldlbaaRead2
namespace Go.Proofs.Ytamgaaakmldlbaa
open Go.RowKit
attribute [local irreducible] VSt.put VSt.fin VSt.stop VSt.reset

theorem out_of {w : World} {cs : List Value} (h : Rd Try.prog w 25 cs) : ∃ p q : Int, cs = [.int .u64 p, .int .u32 q] := by
  obtain ⟨hl, hf⟩ := h.fields (L := [(22, 0), (23, 1)]) (by kernel_rfl) (by kernel_rfl)
  rw [show Try.prog.cellsOf 25 = 2 by kernel_rfl] at hl
  match cs, hl with
  | [x, y], _ =>
    have h0 := hf (22, 0) (by simp)
    have h1 := hf (23, 1) (by simp)
    simp only [show Try.prog.cellsOf 22 = 1 by kernel_rfl, show Try.prog.cellsOf 23 = 1 by kernel_rfl] at h0 h1
    obtain ⟨a, ha, wa⟩ := h0.int Try.underlying22
    obtain ⟨b, hb, wb⟩ := h1.int Try.underlying23
    simp at ha hb
    exact ⟨a, b, by rw [ha, hb]⟩
theorem frm_of {w : World} {cs : List Value} (h : Rd Try.prog w 27 cs) : ∃ F : Frm, cs = [.int .i64 F.c, .int .i64 F.e, .int .u64 F.p, .int .u32 F.q] := by
  obtain ⟨hl, hf⟩ := h.fields (L := [(2, 0), (2, 1), (25, 2)]) (by kernel_rfl) (by kernel_rfl)
  rw [show Try.prog.cellsOf 27 = 4 by kernel_rfl] at hl
  match cs, hl with
  | [x, y, z, t], _ =>
    have h0 := hf (2, 0) (by simp)
    have h1 := hf (2, 1) (by simp)
    have h2 := hf (25, 2) (by simp)
    simp only [show Try.prog.cellsOf 2 = 1 by kernel_rfl, show Try.prog.cellsOf 25 = 2 by kernel_rfl] at h0 h1 h2
    obtain ⟨a, ha, wa⟩ := h0.int Try.underlying2
    obtain ⟨b, hb, wb⟩ := h1.int Try.underlying2
    obtain ⟨p, q, hpq⟩ := out_of h2
    simp at ha hb hpq
    exact ⟨⟨a, b, p, q⟩, by rw [ha, hb, hpq.1, hpq.2]⟩
theorem tmod2 (i : Int) : (i.tmod 2 + 2).tmod 2 = i % 2 := by
  have h1 := Int.tmod_eq_emod (a := i) (b := 2)
  have h2 := Int.emod_nonneg i (show (2 : Int) ≠ 0 by decide)
  have h3 := Int.emod_lt_of_pos i (show (0 : Int) < 2 by decide)
  have h4 : (i.tmod 2 + 2).tmod 2 = (i.tmod 2 + 2) % 2 := by
    refine Int.tmod_eq_emod_of_nonneg ?_
    have := Int.lt_tmod_of_pos i (show (0 : Int) < 2 by decide)
    omega
  rw [h4, h1]
  split <;> omega
theorem pick2_is (i v : Int) (w : World) (hv : i % 2 = v) : Calls Try.prog 10 #[.int .i64 i, .int .i64 2] w fun e w' => e = .returned (.int .i64 v) ∧ w = w' := by
  have h1 := Int.lt_tmod_of_pos i (show (0 : Int) < 2 by decide)
  have h2 := Int.tmod_lt_of_pos i (show (0 : Int) < 2 by decide)
  have ht := tmod2 i
  rw [hv] at ht
  clear hv
  go_enter Try.func10, Try.ntmps10
  go_wp2
  go_ret
  exact ⟨rfl, rfl⟩
theorem put_iF (s s' : VSt) (r : Int) (ch : Int) (F : Frm) (g : Nat) (w : World) (hp : s.put ch F = (s', r)) (h : VoteAt w g s) :
    Calls Try.prog 11 #[.pointer (some ⟨g, 0, none⟩), .int .i64 ch, .agg #[.int .i64 F.c, .int .i64 F.e, .int .u64 F.p, .int .u32 F.q]] w
      fun e w' => e = .returned (.int .i64 r) ∧ VoteAt w' g s' ∧ Only g w w' :=
  (put_any s ch F g w h).mono fun e w' ⟨h1, h2, h3⟩ => by rw [hp] at h1 h2; exact ⟨h1, h2, h3⟩
theorem shown_iF (s : VSt) (F : Frm) (g : Nat) (w : World) (hs : s.shown = some F) (h : VoteAt w g s) : Calls Try.prog 12 #[.pointer (some ⟨g, 0, none⟩)] w
    fun x w' => x = .returned (.tuple #[.agg #[.int .i64 F.c, .int .i64 F.e, .int .u64 F.p, .int .u32 F.q], .bool true]) ∧ Below w.heap.size w w' :=
  (shown_any s g w h).mono fun x w' ⟨h1, h2⟩ => by
    have hf : s.frm = F := by unfold VSt.frm; rw [hs]; rfl
    rw [hf, hs] at h1; exact ⟨h1, h2⟩
def s0 : VSt := ⟨none, none, none, 0, false⟩

set_option maxHeartbeats 2000000 in
theorem unlike_same_0 (F : Frm) (i : Int) (w : World) (hF : ¬ F.c < 1) (hi : i % 2 = 0) :
    Calls Try.prog 3 #[.agg #[.int .i64 F.c, .int .i64 F.e, .int .u64 F.p, .int .u32 F.q], .agg #[.int .i64 F.c, .int .i64 F.e, .int .u64 F.p, .int .u32 F.q], .int .i64 i] w fun e w' => e = .returned (.bool true) ∧ Below w.heap.size w w' := by
  have P1 : Hid (VSt.put s0 0 F = (⟨some F, none, none, 0, false⟩, 0)) := Lib.hid (by
    have : ¬ F.c ≤ 0 := by omega
    simp [VSt.put, s0, VSt.own, VSt.oth, VSt.lay, this])
  have P2 : Hid (VSt.put ⟨some F, none, none, 0, false⟩ 1 F = (⟨none, none, some F, F.c, false⟩, 0)) := Lib.hid (by
    have : ¬ F.c ≤ 0 := by omega
    simp [VSt.put, VSt.own, VSt.oth, this])
  have hq := eql_frm F F
  have hn := neq_frm F F
  have hgd := frm_guard
  rw [decide_eq_true rfl] at hq hn
  
  have HI := Lib.hid hi
  clear hi
  go_enter Try.func3, Try.ntmps3
  go_wp2_with fail
  refine (new_any _).mono ?_
  rintro e w1 ⟨g, rfl, hg, hv1, hb1⟩
  have b1 := below_on (below2' w (Obj.cells #[Value.int IntKind.i64 F.c, Value.int IntKind.i64 F.e, Value.int IntKind.u64 F.p, Value.int IntKind.u32 F.q] 27) (Obj.cells #[Value.int IntKind.i64 F.c, Value.int IntKind.i64 F.e, Value.int IntKind.u64 F.p, Value.int IntKind.u32 F.q] 27)) hb1
  have kF1 := blk_keep hb1 (alloc2' w (Obj.cells #[Value.int IntKind.i64 F.c, Value.int IntKind.i64 F.e, Value.int IntKind.u64 F.p, Value.int IntKind.u32 F.q] 27) (Obj.cells #[Value.int IntKind.i64 F.c, Value.int IntKind.i64 F.e, Value.int IntKind.u64 F.p, Value.int IntKind.u32 F.q] 27)).1
  have kG1 := blk_keep hb1 (alloc2' w (Obj.cells #[Value.int IntKind.i64 F.c, Value.int IntKind.i64 F.e, Value.int IntKind.u64 F.p, Value.int IntKind.u32 F.q] 27) (Obj.cells #[Value.int IntKind.i64 F.c, Value.int IntKind.i64 F.e, Value.int IntKind.u64 F.p, Value.int IntKind.u32 F.q] 27)).2
  have hgs : w.heap.size + 2 ≤ g := by simpa using hg
  have nF : w.heap.size ≠ g := by omega
  have nG : w.heap.size + 1 ≠ g := by omega
  have hgw : w.heap.size ≤ g := by omega
  clear hb1 hg
  go_wp2_with fail
  refine (pick2_is i 0 _ HI.out).mono ?_
  rintro e w' ⟨rfl, rfl⟩
  have eF0 := blk_cell kF1 0 _ rfl
  have eF1 := blk_cell kF1 1 _ rfl
  have eF2 := blk_cell kF1 2 _ rfl
  have eF3 := blk_cell kF1 3 _ rfl
  go_wp2_with fail
  refine (put_iF s0 _ _ 0 F g _ P1.out hv1).mono ?_
  rintro e w2 ⟨rfl, hv2, ho2⟩
  have kF2 := ho2.keep nF kF1
  have kG2 := ho2.keep nG kG1
  have b2 := below_only b1 hgw b1.size ho2
  clear eF0 eF1 eF2 eF3
  have eG0 := blk_cell kG2 0 _ rfl
  have eG1 := blk_cell kG2 1 _ rfl
  have eG2 := blk_cell kG2 2 _ rfl
  have eG3 := blk_cell kG2 3 _ rfl
  go_wp2_with fail
  refine (put_iF _ _ _ 1 F g _ P2.out hv2).mono ?_
  rintro e w3 ⟨rfl, hv3, ho3⟩
  have kF3 := ho3.keep nF kF2
  have kG3 := ho3.keep nG kG2
  have b3 := below_only b2 hgw b2.size ho3
  clear eG0 eG1 eG2 eG3
  go_wp2_with fail
  refine (shown_iF _ F g _ rfl hv3).mono ?_
  rintro e w4 ⟨rfl, hb4⟩
  have hb4' := below_on hb4 (below1 w4 (Obj.cells #[Value.int IntKind.i64 F.c, Value.int IntKind.i64 F.e, Value.int IntKind.u64 F.p, Value.int IntKind.u32 F.q] 27))
  have kF4 := blk_keep hb4' kF3
  have kG4 := blk_keep hb4' kG3
  have kX4 := heap_new' w4 (Obj.cells #[Value.int IntKind.i64 F.c, Value.int IntKind.i64 F.e, Value.int IntKind.u64 F.p, Value.int IntKind.u32 F.q] 27)
  have hv4 := hv3.below hb4'
  have b4 := below_on b3 hb4'
  have kF5 := blk_keep hb4 kF3
  have kG5 := blk_keep hb4 kG3
  have xF := blk_lt kF5
  have xG := blk_lt kG5
  have eF0 := blk_cell kF5 0 _ rfl
  have eF1 := blk_cell kF5 1 _ rfl
  have eF2 := blk_cell kF5 2 _ rfl
  have eF3 := blk_cell kF5 3 _ rfl
  have eG0 := blk_cell kG5 0 _ rfl
  have eG1 := blk_cell kG5 1 _ rfl
  have eG2 := blk_cell kG5 2 _ rfl
  have eG3 := blk_cell kG5 3 _ rfl
  clear kF1 kG1 kF2 kG2 kF3 kG3
  go_wp2_with fail
  refine (stopped_any _ g _ hv4).mono ?_
  rintro e w' ⟨rfl, rfl⟩
  go_wp2_with fail
  refine (works_any _).mono ?_
  rintro e w6 ⟨rfl, hb6⟩
  go_wp2_with fail
  go_ret
  exact ⟨rfl, below_on b4 hb6⟩

set_option maxHeartbeats 2000000 in
theorem unlike_diff_0 (F G : Frm) (i : Int) (w : World) (hF : ¬ F.c < 1) (hG : ¬ G.c < 1) (hne : ¬ F = G) (hi : i % 2 = 0) :
    Calls Try.prog 3 #[.agg #[.int .i64 F.c, .int .i64 F.e, .int .u64 F.p, .int .u32 F.q], .agg #[.int .i64 G.c, .int .i64 G.e, .int .u64 G.p, .int .u32 G.q], .int .i64 i] w fun e w' => e = .returned (.bool true) ∧ Below w.heap.size w w' := by
  have P1 : Hid (VSt.put s0 0 F = (⟨some F, none, none, 0, false⟩, 0)) := Lib.hid (by
    have : ¬ F.c ≤ 0 := by omega
    simp [VSt.put, s0, VSt.own, VSt.oth, VSt.lay, this])
  have P2 : Hid (VSt.put ⟨some F, none, none, 0, false⟩ 1 G = (⟨none, none, none, 0, true⟩, 220)) := Lib.hid (by
    have : ¬ G.c ≤ 0 := by omega
    simp [VSt.put, VSt.own, VSt.oth, this, VSt.stop, hne])
  have hq := eql_frm F G
  have hn := neq_frm zf F
  have hgd := frm_guard
  rw [decide_eq_false hne] at hq
  clear hn
  have HI := Lib.hid hi
  clear hi hne
  go_enter Try.func3, Try.ntmps3
  go_wp2_with fail
  refine (new_any _).mono ?_
  rintro e w1 ⟨g, rfl, hg, hv1, hb1⟩
  have b1 := below_on (below2' w (Obj.cells #[Value.int IntKind.i64 F.c, Value.int IntKind.i64 F.e, Value.int IntKind.u64 F.p, Value.int IntKind.u32 F.q] 27) (Obj.cells #[Value.int IntKind.i64 G.c, Value.int IntKind.i64 G.e, Value.int IntKind.u64 G.p, Value.int IntKind.u32 G.q] 27)) hb1
  have kF1 := blk_keep hb1 (alloc2' w (Obj.cells #[Value.int IntKind.i64 F.c, Value.int IntKind.i64 F.e, Value.int IntKind.u64 F.p, Value.int IntKind.u32 F.q] 27) (Obj.cells #[Value.int IntKind.i64 G.c, Value.int IntKind.i64 G.e, Value.int IntKind.u64 G.p, Value.int IntKind.u32 G.q] 27)).1
  have kG1 := blk_keep hb1 (alloc2' w (Obj.cells #[Value.int IntKind.i64 F.c, Value.int IntKind.i64 F.e, Value.int IntKind.u64 F.p, Value.int IntKind.u32 F.q] 27) (Obj.cells #[Value.int IntKind.i64 G.c, Value.int IntKind.i64 G.e, Value.int IntKind.u64 G.p, Value.int IntKind.u32 G.q] 27)).2
  have hgs : w.heap.size + 2 ≤ g := by simpa using hg
  have nF : w.heap.size ≠ g := by omega
  have nG : w.heap.size + 1 ≠ g := by omega
  have hgw : w.heap.size ≤ g := by omega
  clear hb1 hg
  go_wp2_with fail
  refine (pick2_is i 0 _ HI.out).mono ?_
  rintro e w' ⟨rfl, rfl⟩
  have eF0 := blk_cell kF1 0 _ rfl
  have eF1 := blk_cell kF1 1 _ rfl
  have eF2 := blk_cell kF1 2 _ rfl
  have eF3 := blk_cell kF1 3 _ rfl
  go_wp2_with fail
  refine (put_iF s0 _ _ 0 F g _ P1.out hv1).mono ?_
  rintro e w2 ⟨rfl, hv2, ho2⟩
  have kF2 := ho2.keep nF kF1
  have kG2 := ho2.keep nG kG1
  have b2 := below_only b1 hgw b1.size ho2
  clear eF0 eF1 eF2 eF3
  have eG0 := blk_cell kG2 0 _ rfl
  have eG1 := blk_cell kG2 1 _ rfl
  have eG2 := blk_cell kG2 2 _ rfl
  have eG3 := blk_cell kG2 3 _ rfl
  go_wp2_with fail
  refine (put_iF _ _ _ 1 G g _ P2.out hv2).mono ?_
  rintro e w3 ⟨rfl, hv3, ho3⟩
  have kF3 := ho3.keep nF kF2
  have kG3 := ho3.keep nG kG2
  have b3 := below_only b2 hgw b2.size ho3
  clear eG0 eG1 eG2 eG3
  go_wp2_with fail
  refine (shown_none _ g _ rfl hv3).mono ?_
  rintro e w4 ⟨rfl, hb4⟩
  have hb4' := below_on hb4 (below1 w4 (Obj.cells #[Value.int IntKind.i64 0, Value.int IntKind.i64 0, Value.int IntKind.u64 0, Value.int IntKind.u32 0] 27))
  have kF4 := blk_keep hb4' kF3
  have kG4 := blk_keep hb4' kG3
  have kX4 := heap_new' w4 (Obj.cells #[Value.int IntKind.i64 0, Value.int IntKind.i64 0, Value.int IntKind.u64 0, Value.int IntKind.u32 0] 27)
  have hv4 := hv3.below hb4'
  have b4 := below_on b3 hb4'
  have kF5 := blk_keep hb4 kF3
  have kG5 := blk_keep hb4 kG3
  have xF := blk_lt kF5
  have xG := blk_lt kG5
  have eF0 := blk_cell kF5 0 _ rfl
  have eF1 := blk_cell kF5 1 _ rfl
  have eF2 := blk_cell kF5 2 _ rfl
  have eF3 := blk_cell kF5 3 _ rfl
  have eG0 := blk_cell kG5 0 _ rfl
  have eG1 := blk_cell kG5 1 _ rfl
  have eG2 := blk_cell kG5 2 _ rfl
  have eG3 := blk_cell kG5 3 _ rfl
  clear kF1 kG1 kF2 kG2 kF3 kG3
  go_wp2_with fail
  refine (stopped_any _ g _ hv4).mono ?_
  rintro e w' ⟨rfl, rfl⟩
  go_wp2_with fail
  refine (works_any _).mono ?_
  rintro e w6 ⟨rfl, hb6⟩
  go_wp2_with fail
  go_ret
  exact ⟨rfl, below_on b4 hb6⟩

set_option maxHeartbeats 2000000 in
theorem unlike_same_1 (F : Frm) (i : Int) (w : World) (hF : ¬ F.c < 1) (hi : i % 2 = 1) :
    Calls Try.prog 3 #[.agg #[.int .i64 F.c, .int .i64 F.e, .int .u64 F.p, .int .u32 F.q], .agg #[.int .i64 F.c, .int .i64 F.e, .int .u64 F.p, .int .u32 F.q], .int .i64 i] w fun e w' => e = .returned (.bool true) ∧ Below w.heap.size w w' := by
  have P1 : Hid (VSt.put s0 1 F = (⟨none, some F, none, 0, false⟩, 0)) := Lib.hid (by
    have : ¬ F.c ≤ 0 := by omega
    simp [VSt.put, s0, VSt.own, VSt.oth, VSt.lay, this])
  have P2 : Hid (VSt.put ⟨none, some F, none, 0, false⟩ 0 F = (⟨none, none, some F, F.c, false⟩, 0)) := Lib.hid (by
    have : ¬ F.c ≤ 0 := by omega
    simp [VSt.put, VSt.own, VSt.oth, this])
  have hq := eql_frm F F
  have hn := neq_frm F F
  have hgd := frm_guard
  rw [decide_eq_true rfl] at hq hn
  
  have HI := Lib.hid hi
  clear hi
  go_enter Try.func3, Try.ntmps3
  go_wp2_with fail
  refine (new_any _).mono ?_
  rintro e w1 ⟨g, rfl, hg, hv1, hb1⟩
  have b1 := below_on (below2' w (Obj.cells #[Value.int IntKind.i64 F.c, Value.int IntKind.i64 F.e, Value.int IntKind.u64 F.p, Value.int IntKind.u32 F.q] 27) (Obj.cells #[Value.int IntKind.i64 F.c, Value.int IntKind.i64 F.e, Value.int IntKind.u64 F.p, Value.int IntKind.u32 F.q] 27)) hb1
  have kF1 := blk_keep hb1 (alloc2' w (Obj.cells #[Value.int IntKind.i64 F.c, Value.int IntKind.i64 F.e, Value.int IntKind.u64 F.p, Value.int IntKind.u32 F.q] 27) (Obj.cells #[Value.int IntKind.i64 F.c, Value.int IntKind.i64 F.e, Value.int IntKind.u64 F.p, Value.int IntKind.u32 F.q] 27)).1
  have kG1 := blk_keep hb1 (alloc2' w (Obj.cells #[Value.int IntKind.i64 F.c, Value.int IntKind.i64 F.e, Value.int IntKind.u64 F.p, Value.int IntKind.u32 F.q] 27) (Obj.cells #[Value.int IntKind.i64 F.c, Value.int IntKind.i64 F.e, Value.int IntKind.u64 F.p, Value.int IntKind.u32 F.q] 27)).2
  have hgs : w.heap.size + 2 ≤ g := by simpa using hg
  have nF : w.heap.size ≠ g := by omega
  have nG : w.heap.size + 1 ≠ g := by omega
  have hgw : w.heap.size ≤ g := by omega
  clear hb1 hg
  go_wp2_with fail
  refine (pick2_is i 1 _ HI.out).mono ?_
  rintro e w' ⟨rfl, rfl⟩
  have eF0 := blk_cell kF1 0 _ rfl
  have eF1 := blk_cell kF1 1 _ rfl
  have eF2 := blk_cell kF1 2 _ rfl
  have eF3 := blk_cell kF1 3 _ rfl
  go_wp2_with fail
  refine (put_iF s0 _ _ 1 F g _ P1.out hv1).mono ?_
  rintro e w2 ⟨rfl, hv2, ho2⟩
  have kF2 := ho2.keep nF kF1
  have kG2 := ho2.keep nG kG1
  have b2 := below_only b1 hgw b1.size ho2
  clear eF0 eF1 eF2 eF3
  have eG0 := blk_cell kG2 0 _ rfl
  have eG1 := blk_cell kG2 1 _ rfl
  have eG2 := blk_cell kG2 2 _ rfl
  have eG3 := blk_cell kG2 3 _ rfl
  go_wp2_with fail
  refine (put_iF _ _ _ 0 F g _ P2.out hv2).mono ?_
  rintro e w3 ⟨rfl, hv3, ho3⟩
  have kF3 := ho3.keep nF kF2
  have kG3 := ho3.keep nG kG2
  have b3 := below_only b2 hgw b2.size ho3
  clear eG0 eG1 eG2 eG3
  go_wp2_with fail
  refine (shown_iF _ F g _ rfl hv3).mono ?_
  rintro e w4 ⟨rfl, hb4⟩
  have hb4' := below_on hb4 (below1 w4 (Obj.cells #[Value.int IntKind.i64 F.c, Value.int IntKind.i64 F.e, Value.int IntKind.u64 F.p, Value.int IntKind.u32 F.q] 27))
  have kF4 := blk_keep hb4' kF3
  have kG4 := blk_keep hb4' kG3
  have kX4 := heap_new' w4 (Obj.cells #[Value.int IntKind.i64 F.c, Value.int IntKind.i64 F.e, Value.int IntKind.u64 F.p, Value.int IntKind.u32 F.q] 27)
  have hv4 := hv3.below hb4'
  have b4 := below_on b3 hb4'
  have kF5 := blk_keep hb4 kF3
  have kG5 := blk_keep hb4 kG3
  have xF := blk_lt kF5
  have xG := blk_lt kG5
  have eF0 := blk_cell kF5 0 _ rfl
  have eF1 := blk_cell kF5 1 _ rfl
  have eF2 := blk_cell kF5 2 _ rfl
  have eF3 := blk_cell kF5 3 _ rfl
  have eG0 := blk_cell kG5 0 _ rfl
  have eG1 := blk_cell kG5 1 _ rfl
  have eG2 := blk_cell kG5 2 _ rfl
  have eG3 := blk_cell kG5 3 _ rfl
  clear kF1 kG1 kF2 kG2 kF3 kG3
  go_wp2_with fail
  refine (stopped_any _ g _ hv4).mono ?_
  rintro e w' ⟨rfl, rfl⟩
  go_wp2_with fail
  refine (works_any _).mono ?_
  rintro e w6 ⟨rfl, hb6⟩
  go_wp2_with fail
  go_ret
  exact ⟨rfl, below_on b4 hb6⟩

set_option maxHeartbeats 2000000 in
theorem unlike_diff_1 (F G : Frm) (i : Int) (w : World) (hF : ¬ F.c < 1) (hG : ¬ G.c < 1) (hne : ¬ F = G) (hi : i % 2 = 1) :
    Calls Try.prog 3 #[.agg #[.int .i64 F.c, .int .i64 F.e, .int .u64 F.p, .int .u32 F.q], .agg #[.int .i64 G.c, .int .i64 G.e, .int .u64 G.p, .int .u32 G.q], .int .i64 i] w fun e w' => e = .returned (.bool true) ∧ Below w.heap.size w w' := by
  have P1 : Hid (VSt.put s0 1 F = (⟨none, some F, none, 0, false⟩, 0)) := Lib.hid (by
    have : ¬ F.c ≤ 0 := by omega
    simp [VSt.put, s0, VSt.own, VSt.oth, VSt.lay, this])
  have P2 : Hid (VSt.put ⟨none, some F, none, 0, false⟩ 0 G = (⟨none, none, none, 0, true⟩, 220)) := Lib.hid (by
    have : ¬ G.c ≤ 0 := by omega
    simp [VSt.put, VSt.own, VSt.oth, this, VSt.stop, hne])
  have hq := eql_frm F G
  have hn := neq_frm zf F
  have hgd := frm_guard
  rw [decide_eq_false hne] at hq
  clear hn
  have HI := Lib.hid hi
  clear hi hne
  go_enter Try.func3, Try.ntmps3
  go_wp2_with fail
  refine (new_any _).mono ?_
  rintro e w1 ⟨g, rfl, hg, hv1, hb1⟩
  have b1 := below_on (below2' w (Obj.cells #[Value.int IntKind.i64 F.c, Value.int IntKind.i64 F.e, Value.int IntKind.u64 F.p, Value.int IntKind.u32 F.q] 27) (Obj.cells #[Value.int IntKind.i64 G.c, Value.int IntKind.i64 G.e, Value.int IntKind.u64 G.p, Value.int IntKind.u32 G.q] 27)) hb1
  have kF1 := blk_keep hb1 (alloc2' w (Obj.cells #[Value.int IntKind.i64 F.c, Value.int IntKind.i64 F.e, Value.int IntKind.u64 F.p, Value.int IntKind.u32 F.q] 27) (Obj.cells #[Value.int IntKind.i64 G.c, Value.int IntKind.i64 G.e, Value.int IntKind.u64 G.p, Value.int IntKind.u32 G.q] 27)).1
  have kG1 := blk_keep hb1 (alloc2' w (Obj.cells #[Value.int IntKind.i64 F.c, Value.int IntKind.i64 F.e, Value.int IntKind.u64 F.p, Value.int IntKind.u32 F.q] 27) (Obj.cells #[Value.int IntKind.i64 G.c, Value.int IntKind.i64 G.e, Value.int IntKind.u64 G.p, Value.int IntKind.u32 G.q] 27)).2
  have hgs : w.heap.size + 2 ≤ g := by simpa using hg
  have nF : w.heap.size ≠ g := by omega
  have nG : w.heap.size + 1 ≠ g := by omega
  have hgw : w.heap.size ≤ g := by omega
  clear hb1 hg
  go_wp2_with fail
  refine (pick2_is i 1 _ HI.out).mono ?_
  rintro e w' ⟨rfl, rfl⟩
  have eF0 := blk_cell kF1 0 _ rfl
  have eF1 := blk_cell kF1 1 _ rfl
  have eF2 := blk_cell kF1 2 _ rfl
  have eF3 := blk_cell kF1 3 _ rfl
  go_wp2_with fail
  refine (put_iF s0 _ _ 1 F g _ P1.out hv1).mono ?_
  rintro e w2 ⟨rfl, hv2, ho2⟩
  have kF2 := ho2.keep nF kF1
  have kG2 := ho2.keep nG kG1
  have b2 := below_only b1 hgw b1.size ho2
  clear eF0 eF1 eF2 eF3
  have eG0 := blk_cell kG2 0 _ rfl
  have eG1 := blk_cell kG2 1 _ rfl
  have eG2 := blk_cell kG2 2 _ rfl
  have eG3 := blk_cell kG2 3 _ rfl
  go_wp2_with fail
  refine (put_iF _ _ _ 0 G g _ P2.out hv2).mono ?_
  rintro e w3 ⟨rfl, hv3, ho3⟩
  have kF3 := ho3.keep nF kF2
  have kG3 := ho3.keep nG kG2
  have b3 := below_only b2 hgw b2.size ho3
  clear eG0 eG1 eG2 eG3
  go_wp2_with fail
  refine (shown_none _ g _ rfl hv3).mono ?_
  rintro e w4 ⟨rfl, hb4⟩
  have hb4' := below_on hb4 (below1 w4 (Obj.cells #[Value.int IntKind.i64 0, Value.int IntKind.i64 0, Value.int IntKind.u64 0, Value.int IntKind.u32 0] 27))
  have kF4 := blk_keep hb4' kF3
  have kG4 := blk_keep hb4' kG3
  have kX4 := heap_new' w4 (Obj.cells #[Value.int IntKind.i64 0, Value.int IntKind.i64 0, Value.int IntKind.u64 0, Value.int IntKind.u32 0] 27)
  have hv4 := hv3.below hb4'
  have b4 := below_on b3 hb4'
  have kF5 := blk_keep hb4 kF3
  have kG5 := blk_keep hb4 kG3
  have xF := blk_lt kF5
  have xG := blk_lt kG5
  have eF0 := blk_cell kF5 0 _ rfl
  have eF1 := blk_cell kF5 1 _ rfl
  have eF2 := blk_cell kF5 2 _ rfl
  have eF3 := blk_cell kF5 3 _ rfl
  have eG0 := blk_cell kG5 0 _ rfl
  have eG1 := blk_cell kG5 1 _ rfl
  have eG2 := blk_cell kG5 2 _ rfl
  have eG3 := blk_cell kG5 3 _ rfl
  clear kF1 kG1 kF2 kG2 kF3 kG3
  go_wp2_with fail
  refine (stopped_any _ g _ hv4).mono ?_
  rintro e w' ⟨rfl, rfl⟩
  go_wp2_with fail
  refine (works_any _).mono ?_
  rintro e w6 ⟨rfl, hb6⟩
  go_wp2_with fail
  go_ret
  exact ⟨rfl, below_on b4 hb6⟩

theorem unlike_low (F G : Frm) (i : Int) (w : World) (h : F.c < 1 ∨ ¬ F.c < 1 ∧ G.c < 1) :
    Calls Try.prog 3 #[.agg #[.int .i64 F.c, .int .i64 F.e, .int .u64 F.p, .int .u32 F.q], .agg #[.int .i64 G.c, .int .i64 G.e, .int .u64 G.p, .int .u32 G.q], .int .i64 i] w fun e w' => e = .returned (.bool true) ∧ Below w.heap.size w w' := by
  rcases h with h | ⟨h0, h⟩
  all_goals
    go_enter Try.func3, Try.ntmps3
    go_wp2_with fail
    refine (works_any _).mono ?_
    rintro e w6 ⟨rfl, hb6⟩
    go_wp2_with fail
    go_ret
    exact ⟨rfl, below_on (below2' _ _ _) hb6⟩
theorem walk_VoteUnlike (v0 v1 : Array Value) (a2 : Int) (w : World) (_s0 : v0.size = Try.prog.cellsOf 27) (w0 : Rd Try.prog w 27 v0.toList) (_s1 : v1.size = Try.prog.cellsOf 27) (w1 : Rd Try.prog w 27 v1.toList) (_w2 : (Lit.int .i64 a2).wf = true) :
    Calls Try.prog 3 #[.agg v0, .agg v1, .int .i64 a2] w fun e w' => e = .returned (.bool true) ∧ Below w.heap.size w w' := by
  obtain ⟨F, hF⟩ := frm_of w0
  obtain ⟨G, hG⟩ := frm_of w1
  obtain rfl := array_of_list hF
  obtain rfl := array_of_list hG
  by_cases h1 : F.c < 1
  · exact unlike_low F G a2 w (.inl h1)
  by_cases h2 : G.c < 1
  · exact unlike_low F G a2 w (.inr ⟨h1, h2⟩)
  rcases (show a2 % 2 = 0 ∨ a2 % 2 = 1 by omega) with hi | hi
  · by_cases h : F = G
    · subst h; exact unlike_same_0 F a2 w h1 hi
    · exact unlike_diff_0 F G a2 w h1 h2 h hi
  · by_cases h : F = G
    · subst h; exact unlike_same_1 F a2 w h1 hi
    · exact unlike_diff_1 F G a2 w h1 h2 h hi
end Go.Proofs.Ytamgaaakmldlbaa
