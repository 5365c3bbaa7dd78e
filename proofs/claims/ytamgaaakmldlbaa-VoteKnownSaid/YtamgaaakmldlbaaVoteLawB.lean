/-
  Walks of the statement VoteNone of chapter 12.
-/
import Derived.Test.YtamgaaakmldlbaaVoteLawA
namespace Go.Proofs.Ytamgaaakmldlbaa
open Go.RowKit
attribute [local irreducible] VSt.put VSt.fin VSt.stop VSt.reset

theorem nreset (w : World) : Calls Try.prog 18 #[.pointer none] w fun e w' => e = .returned (.tuple #[]) ∧ w = w' := by
  go_enter Try.func18, Try.ntmps18
  go_wp2
  go_end0
  exact ⟨rfl, rfl⟩
theorem nstop (w : World) : Calls Try.prog 19 #[.pointer none] w fun e w' => e = .returned (.tuple #[]) ∧ w = w' := by
  go_enter Try.func19, Try.ntmps19
  go_wp2
  go_end0
  exact ⟨rfl, rfl⟩
theorem nshown (w : World) : Calls Try.prog 12 #[.pointer none] w fun e w' => e = .returned (.tuple #[.agg #[.int .i64 0, .int .i64 0, .int .u64 0, .int .u32 0], .bool false]) ∧ Below w.heap.size w w' := by
  go_enter Try.func12, Try.ntmps12
  go_wp2
  exact bodyPost_ret (v := .tuple #[.agg #[.int .i64 0, .int .i64 0, .int .u64 0, .int .u32 0], .bool false]) (by simp [results, Try.results12, go_sem]) rfl ⟨rfl, below1 _ _⟩
theorem nstopped (w : World) : Calls Try.prog 13 #[.pointer none] w fun e w' => e = .returned (.bool true) ∧ w = w' := by
  go_enter Try.func13, Try.ntmps13
  go_wp2
  go_ret
  exact ⟨rfl, rfl⟩
theorem nlast (w : World) : Calls Try.prog 16 #[.pointer none] w fun e w' => e = .returned (.int .i64 0) ∧ w = w' := by
  go_enter Try.func16, Try.ntmps16
  go_wp2
  go_ret
  exact ⟨rfl, rfl⟩
theorem nend (w : World) : Calls Try.prog 17 #[.pointer none] w fun e w' => e = .returned (.int .i64 1) ∧ w = w' := by
  go_enter Try.func17, Try.ntmps17
  go_wp2
  go_ret
  exact ⟨rfl, rfl⟩
theorem nput (ch c e p q : Int) (w : World) : Calls Try.prog 11 #[.pointer none, .int .i64 ch, .agg #[.int .i64 c, .int .i64 e, .int .u64 p, .int .u32 q]] w fun x w' => x = .returned (.int .i64 1) ∧ Below w.heap.size w w' := by
  go_enter Try.func11, Try.ntmps11
  go_wp2
  go_ret
  exact ⟨rfl, below1 _ _⟩
set_option maxHeartbeats 2000000 in
theorem none_any (ch : Int) (F : Frm) (w : World) :
    Calls Try.prog 6 #[.int .i64 ch, .agg #[.int .i64 F.c, .int .i64 F.e, .int .u64 F.p, .int .u32 F.q]] w fun e w' => e = .returned (.bool true) ∧ Below w.heap.size w w' := by
  have hq := eql_frm zf zf
  have hgd := frm_guard
  rw [decide_eq_true rfl] at hq
  dsimp only [zf] at hq
  go_enter Try.func6, Try.ntmps6
  go_wp2_with fail
  refine (nreset _).mono ?_
  rintro e w' ⟨rfl, rfl⟩
  go_wp2_with fail
  refine (nstop _).mono ?_
  rintro e w' ⟨rfl, rfl⟩
  go_wp2_with fail
  refine (nshown _).mono ?_
  rintro e w1 ⟨rfl, hb1⟩
  have kF := blk_keep hb1 (heap_new' w (Obj.cells #[Value.int IntKind.i64 F.c, Value.int IntKind.i64 F.e, Value.int IntKind.u64 F.p, Value.int IntKind.u32 F.q] 27))
  have xF := blk_lt kF
  have b1 := below_on (below_on (below1 w (Obj.cells #[Value.int IntKind.i64 F.c, Value.int IntKind.i64 F.e, Value.int IntKind.u64 F.p, Value.int IntKind.u32 F.q] 27)) hb1) (below1 w1 (Obj.cells #[Value.int IntKind.i64 0, Value.int IntKind.i64 0, Value.int IntKind.u64 0, Value.int IntKind.u32 0] 27))
  have kX := heap_new' w1 (Obj.cells #[Value.int IntKind.i64 0, Value.int IntKind.i64 0, Value.int IntKind.u64 0, Value.int IntKind.u32 0] 27)
  have eF0 := blk_cell kF 0 _ rfl
  have eF1 := blk_cell kF 1 _ rfl
  have eF2 := blk_cell kF 2 _ rfl
  have eF3 := blk_cell kF 3 _ rfl
  go_wp2_with fail
  refine (nput ch F.c F.e F.p F.q _).mono ?_
  rintro e w2 ⟨rfl, hb2⟩
  have kX2 := blk_keep hb2 kX
  clear eF0 eF1 eF2 eF3
  have eX0 := blk_cell kX2 0 _ rfl
  have eX1 := blk_cell kX2 1 _ rfl
  have eX2 := blk_cell kX2 2 _ rfl
  have eX3 := blk_cell kX2 3 _ rfl
  go_wp2_with fail
  refine (nend _).mono ?_
  rintro e w' ⟨rfl, rfl⟩
  go_wp2_with fail
  refine (nstopped _).mono ?_
  rintro e w' ⟨rfl, rfl⟩
  go_wp2_with fail
  refine (nlast _).mono ?_
  rintro e w' ⟨rfl, rfl⟩
  go_wp2_with fail
  refine (works_any _).mono ?_
  rintro e w3 ⟨rfl, hb3⟩
  go_wp2_with fail
  go_ret
  exact ⟨rfl, below_on (below_on b1 hb2) hb3⟩
theorem walk_VoteNone (a0 : Int) (v1 : Array Value) (w : World) (_w0 : (Lit.int .i64 a0).wf = true) (_s1 : v1.size = Try.prog.cellsOf 27) (w1 : Rd Try.prog w 27 v1.toList) :
    Calls Try.prog 6 #[.int .i64 a0, .agg v1] w fun e w' => e = .returned (.bool true) ∧ Below w.heap.size w w' := by
  obtain ⟨F, hF⟩ := frm_of w1
  obtain rfl := array_of_list hF
  exact none_any a0 F w
end Go.Proofs.Ytamgaaakmldlbaa
