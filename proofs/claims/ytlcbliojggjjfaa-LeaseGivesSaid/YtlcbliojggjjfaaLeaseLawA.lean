/-
  Walks of the statements LeaseAsks, LeaseRenews, LeaseGives of chapter 23.
-/
import Derived.Test.YtlcbliojggjjfaaLeaseWorks
import Derived.Test.YtlcbliojggjjfaaCalm
import Derived.Laws.StructEq
namespace Go.Proofs.Ytlcbliojggjjfaa
open Go.RowKit
attribute [local irreducible] inB inL rightB okB ofR askR renewR giveR askedR

theorem rb_plain : Try.prog.stoodInHeld 29 = false := by kernel_rfl
theorem rb_guard : Try.prog.eqGuardType Try.prog.depth 29 = false := by kernel_rfl
theorem rb_fields : (Try.prog.fieldsOf 29).toList.map (fun f => (f.name, f.type, f.offset)) = [("Epoch", 2, 0), ("Holder", 3, 1), ("Until", 2, 2)] := by kernel_rfl
theorem eql_rb (a b c : Int) (w : World) : (binOp .eql 29 (.agg #[.int .i64 a, .int .i64 b, .int .i64 c]) (.agg #[.int .i64 a, .int .i64 b, .int .i64 c])).run Try.prog w = .ok (.bool true) w := by
  rw [run_eql_struct, run_equalIn_agg w 9999 29 _ _ (by kernel_rfl) rb_plain]
  have h := rb_fields
  obtain ⟨f, L1, hL, hf, h1⟩ := List.map_eq_cons_iff.1 h
  obtain ⟨g, L2, hL1, hg, h2⟩ := List.map_eq_cons_iff.1 h1
  obtain ⟨k, L3, hL2, hk, h3⟩ := List.map_eq_cons_iff.1 h2
  obtain rfl := List.map_eq_nil_iff.1 h3
  simp only [Prod.mk.injEq] at hf hg hk
  obtain ⟨a1, a2, a3⟩ := hf
  obtain ⟨b1, b2, b3⟩ := hg
  obtain ⟨k1, k2, k3⟩ := hk
  rw [hL, hL1, hL2]
  simp [Op.eqFields, a1, a2, a3, b1, b2, b3, k1, k2, k3, part, go_sem]
theorem book_of {w : World} {cs : List Value} (h : Rd Try.prog w 23 cs) : ∃ E H U : Int, cs = [.int .i64 E, .int .i64 H, .int .i64 U] ∧ -9223372036854775808 ≤ H ∧ H ≤ 9223372036854775807 := by
  obtain ⟨hl, hf⟩ := h.fields (L := [(2, 0), (3, 1), (2, 2)]) (by kernel_rfl) (by kernel_rfl)
  rw [show Try.prog.cellsOf 23 = 3 by kernel_rfl] at hl
  match cs, hl with
  | [x, y, z], _ =>
    have h0 := hf (2, 0) (by simp)
    have h1 := hf (3, 1) (by simp)
    have h2 := hf (2, 2) (by simp)
    simp only [show Try.prog.cellsOf 2 = 1 by kernel_rfl, show Try.prog.cellsOf 3 = 1 by kernel_rfl] at h0 h1 h2
    obtain ⟨a, ha, wa⟩ := h0.int Try.underlying2
    obtain ⟨b, hb, wb⟩ := h1.int Try.underlying3
    obtain ⟨c, hc, wc⟩ := h2.int Try.underlying2
    simp at ha hb hc
    have := bounds_i64 wb
    exact ⟨a, b, c, by rw [ha, hb, hc], this.1, by omega⟩

set_option maxHeartbeats 4000000 in
theorem LeaseAsks_law (E H U p t : Int) (w : World) (hH1 : -9223372036854775808 ≤ H) (hH2 : H ≤ 9223372036854775807) :
    Calls Try.prog 3 #[.agg #[.int .i64 E, .int .i64 H, .int .i64 U], .int .i64 p, .int .i64 t] w fun e w' => e = .returned (.bool true) ∧ Below w.heap.size w w' := by
  obtain ⟨R, hR⟩ : ∃ R, askR E H U p t = R := ⟨_, rfl⟩
  obtain ⟨e, h, u, ge, gu, er⟩ := R
  have HR := Lib.hid hR
  have heq := eql_rb e h u
  have hgd := rb_guard
  have a0 := below1 w (Obj.cells #[Value.int IntKind.i64 E, Value.int IntKind.i64 H, Value.int IntKind.i64 U] 23)
  have kA0 := heap_new' w (Obj.cells #[Value.int IntKind.i64 E, Value.int IntKind.i64 H, Value.int IntKind.i64 U] 23)
  clear hR
  go_enter Try.func3, Try.ntmps3
  go_wp2_with fail
  refine (ask_is e h u ge gu er E H U p t _ hH1 hH2 HR.out).mono ?_
  rintro x w1 ⟨rfl, hb1⟩
  have kA1 := blk_keep hb1 kA0
  have a1 := below_on a0 hb1
  have n1 := below2' w1 (Obj.cells #[Value.int IntKind.i64 e, Value.int IntKind.i64 h, Value.int IntKind.i64 u] 23) (Obj.cells #[Value.int IntKind.i64 ge, Value.int IntKind.i64 gu] 25)
  have kC2 := (alloc2' w1 (Obj.cells #[Value.int IntKind.i64 e, Value.int IntKind.i64 h, Value.int IntKind.i64 u] 23) (Obj.cells #[Value.int IntKind.i64 ge, Value.int IntKind.i64 gu] 25)).1
  have kG2 := (alloc2' w1 (Obj.cells #[Value.int IntKind.i64 e, Value.int IntKind.i64 h, Value.int IntKind.i64 u] 23) (Obj.cells #[Value.int IntKind.i64 ge, Value.int IntKind.i64 gu] 25)).2
  have kA2 := blk_keep n1 kA1
  have a2 := below_on a1 n1
  have xA := blk_lt kA1
  have eA0 := blk_cell kA1 0 _ rfl
  have eA1 := blk_cell kA1 1 _ rfl
  have eA2 := blk_cell kA1 2 _ rfl
  clear kA0 a0 hb1 n1
  go_wp2_with fail
  refine (plain_any E H U _).mono ?_
  rintro x w3 ⟨rfl, hb3⟩
  have kA3 := blk_keep hb3 kA2
  have kC3 := blk_keep hb3 kC2
  have kG3 := blk_keep hb3 kG2
  have a3 := below_on a2 hb3
  clear xA
  clear eA0 eA1 eA2
  go_wp2_with fail
  refine (rask_is e h u ge gu er E H U p t _ hH1 hH2 HR.out).mono ?_
  rintro x w4 ⟨rfl, hb4⟩
  have kA4 := blk_keep hb4 kA3
  have kC4 := blk_keep hb4 kC3
  have kG4 := blk_keep hb4 kG3
  have a4 := below_on a3 hb4
  have n4 := below1 w4 (Obj.cells #[Value.int IntKind.i64 e, Value.int IntKind.i64 h, Value.int IntKind.i64 u] 29)
  have kR5 := heap_new' w4 (Obj.cells #[Value.int IntKind.i64 e, Value.int IntKind.i64 h, Value.int IntKind.i64 u] 29)
  have kA5 := blk_keep n4 kA4
  have kC5 := blk_keep n4 kC4
  have kG5 := blk_keep n4 kG4
  have a5 := below_on a4 n4
  clear hb3 hb4 n4 a1 a2 a3 a4 kA1 kA2 kA3 kA4 kC2 kC3 kC4 kG2 kG3 kG4
  go_wp2_with fail
  obtain ⟨W, hW⟩ : ∃ W, W = w4.alloc (Obj.cells #[Value.int IntKind.i64 e, Value.int IntKind.i64 h, Value.int IntKind.i64 u] 29) := ⟨_, rfl⟩
  rw [← hW] at kR5 kA5 kC5 a5 ⊢
  rw [← hW] at kG5
  clear hW
  have c1 : ∀ w', Below W.heap.size W w' → Calls Try.prog 8 #[.agg #[.int .i64 e, .int .i64 h, .int .i64 u]] w' fun x w'' => x = .returned (.agg #[.int .i64 e, .int .i64 h, .int .i64 u]) ∧ Below W.heap.size W w'' :=
    fun w' hw' => (plain_any e h u w').mono (fun x w9 ⟨h1, h2⟩ => ⟨h1, below_on hw' h2⟩)
  have c2 : ∀ w', Below W.heap.size W w' → Calls Try.prog 12 #[] w' fun x w'' => x = .returned (.bool true) ∧ Below W.heap.size W w'' :=
    fun w' hw' => (works_any w').mono (fun x w9 ⟨h1, h2⟩ => ⟨h1, below_on hw' h2⟩)
  have c3 : ∀ w', Below W.heap.size W w' → Calls Try.prog 8 #[.agg #[.int .i64 E, .int .i64 H, .int .i64 U]] w' fun x w'' => x = .returned (.agg #[.int .i64 E, .int .i64 H, .int .i64 U]) ∧ Below W.heap.size W w'' :=
    fun w' hw' => (plain_any E H U w').mono (fun x w9 ⟨h1, h2⟩ => ⟨h1, below_on hw' h2⟩)
  have c4 : ∀ w', Below W.heap.size W w' → Calls Try.prog 10 #[.agg #[.int .i64 E, .int .i64 H, .int .i64 U]] w' fun x w'' => x = .returned (.bool (rightB E H U)) ∧ Below W.heap.size W w'' :=
    fun w' hw' => (right_any E H U w' hH1 hH2).mono (fun x w9 ⟨h1, h2⟩ => ⟨h1, below_on hw' h2⟩)
  have c5 : ∀ w', Below W.heap.size W w' → Calls Try.prog 11 #[.agg #[.int .i64 E, .int .i64 H, .int .i64 U]] w' fun x w'' => x = .returned (.bool (rightB E H U)) ∧ Below W.heap.size W w'' :=
    fun w' hw' => (rright_any E H U w').mono (fun x w9 ⟨h1, h2⟩ => ⟨h1, below_on hw' h2⟩)
  clear hH1 hH2
  refine wp_region_calm (by kernel_rfl) ?_ ?_
  · kernel_rfl
  repeat
    (with_reducible apply wpQuiet_step
     intro K hK
     go_simp
     first
       | (refine hK _ ?_; clear hK K)
       | (apply Exists.intro
          refine ⟨fun w' hw' => ?_, hK _ ?_⟩
          ·
            (first
             | with_reducible exact c1 _ hw'
             | with_reducible exact c2 _ hw'
             | with_reducible exact c3 _ hw'
             | with_reducible exact c4 _ hw'
             | with_reducible exact c5 _ hw'
             | (have eA0 := blk_cell (blk_keep hw' kA5) 0 _ rfl
                have eA1 := blk_cell (blk_keep hw' kA5) 1 _ rfl
                have eA2 := blk_cell (blk_keep hw' kA5) 2 _ rfl
                have eC0 := blk_cell (blk_keep hw' kC5) 0 _ rfl
                have eC1 := blk_cell (blk_keep hw' kC5) 1 _ rfl
                have eC2 := blk_cell (blk_keep hw' kC5) 2 _ rfl
                have eR0 := blk_cell (blk_keep hw' kR5) 0 _ rfl
                have eR1 := blk_cell (blk_keep hw' kR5) 1 _ rfl
                have eR2 := blk_cell (blk_keep hw' kR5) 2 _ rfl
                have eG0 := blk_cell (blk_keep hw' kG5) 0 _ rfl
                have eG1 := blk_cell (blk_keep hw' kG5) 1 _ rfl
                go_simp
                first | done | exact rfl | exact ⟨rfl, rfl⟩ | exact c1 _ hw' | exact c2 _ hw' | exact c3 _ hw' | exact c4 _ hw' | exact c5 _ hw'))
          clear hK K))
  refine wpQuiet_nil ?_
  intro w7 hw7
  go_wp2_with fail
  go_ret
  exact ⟨rfl, below_on a5 hw7⟩
theorem walk_LeaseAsks (v0 : Array Value) (a1 : Int) (a2 : Int) (w : World) (_s0 : v0.size = Try.prog.cellsOf 23) (w0 : Rd Try.prog w 23 v0.toList) (_w1 : (Lit.int .i64 a1).wf = true) (_w2 : (Lit.int .i64 a2).wf = true) :
    Calls Try.prog 3 #[.agg v0, .int .i64 a1, .int .i64 a2] w fun e w' => e = .returned (.bool true) ∧ Below w.heap.size w w' := by
  obtain ⟨E, H, U, hc, h1, h2⟩ := book_of w0
  obtain rfl := array_of_list hc
  exact LeaseAsks_law E H U a1 a2 w h1 h2

set_option maxHeartbeats 4000000 in
theorem LeaseRenews_law (E H U p n t : Int) (w : World) (hH1 : -9223372036854775808 ≤ H) (hH2 : H ≤ 9223372036854775807) :
    Calls Try.prog 4 #[.agg #[.int .i64 E, .int .i64 H, .int .i64 U], .int .i64 p, .int .i64 n, .int .i64 t] w fun e w' => e = .returned (.bool true) ∧ Below w.heap.size w w' := by
  obtain ⟨R, hR⟩ : ∃ R, renewR E H U p n t = R := ⟨_, rfl⟩
  obtain ⟨e, h, u, ge, gu, er⟩ := R
  have HR := Lib.hid hR
  have heq := eql_rb e h u
  have hgd := rb_guard
  have a0 := below1 w (Obj.cells #[Value.int IntKind.i64 E, Value.int IntKind.i64 H, Value.int IntKind.i64 U] 23)
  have kA0 := heap_new' w (Obj.cells #[Value.int IntKind.i64 E, Value.int IntKind.i64 H, Value.int IntKind.i64 U] 23)
  clear hR
  go_enter Try.func4, Try.ntmps4
  go_wp2_with fail
  refine (renew_is e h u ge gu er E H U p n t _ hH1 hH2 HR.out).mono ?_
  rintro x w1 ⟨rfl, hb1⟩
  have kA1 := blk_keep hb1 kA0
  have a1 := below_on a0 hb1
  have n1 := below2' w1 (Obj.cells #[Value.int IntKind.i64 e, Value.int IntKind.i64 h, Value.int IntKind.i64 u] 23) (Obj.cells #[Value.int IntKind.i64 ge, Value.int IntKind.i64 gu] 25)
  have kC2 := (alloc2' w1 (Obj.cells #[Value.int IntKind.i64 e, Value.int IntKind.i64 h, Value.int IntKind.i64 u] 23) (Obj.cells #[Value.int IntKind.i64 ge, Value.int IntKind.i64 gu] 25)).1
  have kG2 := (alloc2' w1 (Obj.cells #[Value.int IntKind.i64 e, Value.int IntKind.i64 h, Value.int IntKind.i64 u] 23) (Obj.cells #[Value.int IntKind.i64 ge, Value.int IntKind.i64 gu] 25)).2
  have kA2 := blk_keep n1 kA1
  have a2 := below_on a1 n1
  have xA := blk_lt kA1
  have eA0 := blk_cell kA1 0 _ rfl
  have eA1 := blk_cell kA1 1 _ rfl
  have eA2 := blk_cell kA1 2 _ rfl
  clear kA0 a0 hb1 n1
  go_wp2_with fail
  refine (plain_any E H U _).mono ?_
  rintro x w3 ⟨rfl, hb3⟩
  have kA3 := blk_keep hb3 kA2
  have kC3 := blk_keep hb3 kC2
  have kG3 := blk_keep hb3 kG2
  have a3 := below_on a2 hb3
  clear xA
  clear eA0 eA1 eA2
  go_wp2_with fail
  refine (rrenew_is e h u ge gu er E H U p n t _ HR.out).mono ?_
  rintro x w4 ⟨rfl, hb4⟩
  have kA4 := blk_keep hb4 kA3
  have kC4 := blk_keep hb4 kC3
  have kG4 := blk_keep hb4 kG3
  have a4 := below_on a3 hb4
  have n4 := below1 w4 (Obj.cells #[Value.int IntKind.i64 e, Value.int IntKind.i64 h, Value.int IntKind.i64 u] 29)
  have kR5 := heap_new' w4 (Obj.cells #[Value.int IntKind.i64 e, Value.int IntKind.i64 h, Value.int IntKind.i64 u] 29)
  have kA5 := blk_keep n4 kA4
  have kC5 := blk_keep n4 kC4
  have kG5 := blk_keep n4 kG4
  have a5 := below_on a4 n4
  clear hb3 hb4 n4 a1 a2 a3 a4 kA1 kA2 kA3 kA4 kC2 kC3 kC4 kG2 kG3 kG4
  go_wp2_with fail
  obtain ⟨W, hW⟩ : ∃ W, W = w4.alloc (Obj.cells #[Value.int IntKind.i64 e, Value.int IntKind.i64 h, Value.int IntKind.i64 u] 29) := ⟨_, rfl⟩
  rw [← hW] at kR5 kA5 kC5 a5 ⊢
  rw [← hW] at kG5
  clear hW
  have c1 : ∀ w', Below W.heap.size W w' → Calls Try.prog 8 #[.agg #[.int .i64 e, .int .i64 h, .int .i64 u]] w' fun x w'' => x = .returned (.agg #[.int .i64 e, .int .i64 h, .int .i64 u]) ∧ Below W.heap.size W w'' :=
    fun w' hw' => (plain_any e h u w').mono (fun x w9 ⟨h1, h2⟩ => ⟨h1, below_on hw' h2⟩)
  have c2 : ∀ w', Below W.heap.size W w' → Calls Try.prog 12 #[] w' fun x w'' => x = .returned (.bool true) ∧ Below W.heap.size W w'' :=
    fun w' hw' => (works_any w').mono (fun x w9 ⟨h1, h2⟩ => ⟨h1, below_on hw' h2⟩)
  clear hH1 hH2
  refine wp_region_calm (by kernel_rfl) ?_ ?_
  · kernel_rfl
  repeat
    (with_reducible apply wpQuiet_step
     intro K hK
     go_simp
     first
       | (refine hK _ ?_; clear hK K)
       | (apply Exists.intro
          refine ⟨fun w' hw' => ?_, hK _ ?_⟩
          ·
            (first
             | with_reducible exact c1 _ hw'
             | with_reducible exact c2 _ hw'
             | (have eA0 := blk_cell (blk_keep hw' kA5) 0 _ rfl
                have eA1 := blk_cell (blk_keep hw' kA5) 1 _ rfl
                have eA2 := blk_cell (blk_keep hw' kA5) 2 _ rfl
                have eC0 := blk_cell (blk_keep hw' kC5) 0 _ rfl
                have eC1 := blk_cell (blk_keep hw' kC5) 1 _ rfl
                have eC2 := blk_cell (blk_keep hw' kC5) 2 _ rfl
                have eR0 := blk_cell (blk_keep hw' kR5) 0 _ rfl
                have eR1 := blk_cell (blk_keep hw' kR5) 1 _ rfl
                have eR2 := blk_cell (blk_keep hw' kR5) 2 _ rfl
                have eG0 := blk_cell (blk_keep hw' kG5) 0 _ rfl
                have eG1 := blk_cell (blk_keep hw' kG5) 1 _ rfl
                go_simp
                first | done | exact rfl | exact ⟨rfl, rfl⟩ | exact c1 _ hw' | exact c2 _ hw'))
          clear hK K))
  refine wpQuiet_nil ?_
  intro w7 hw7
  go_wp2_with fail
  go_ret
  exact ⟨rfl, below_on a5 hw7⟩
theorem walk_LeaseRenews (v0 : Array Value) (a1 : Int) (a2 : Int) (a3 : Int) (w : World) (_s0 : v0.size = Try.prog.cellsOf 23) (w0 : Rd Try.prog w 23 v0.toList) (_w1 : (Lit.int .i64 a1).wf = true) (_w2 : (Lit.int .i64 a2).wf = true) (_w3 : (Lit.int .i64 a3).wf = true) :
    Calls Try.prog 4 #[.agg v0, .int .i64 a1, .int .i64 a2, .int .i64 a3] w fun e w' => e = .returned (.bool true) ∧ Below w.heap.size w w' := by
  obtain ⟨E, H, U, hc, h1, h2⟩ := book_of w0
  obtain rfl := array_of_list hc
  exact LeaseRenews_law E H U a1 a2 a3 w h1 h2

set_option maxHeartbeats 4000000 in
theorem LeaseGives_law (E H U p n : Int) (w : World) (hH1 : -9223372036854775808 ≤ H) (hH2 : H ≤ 9223372036854775807) :
    Calls Try.prog 5 #[.agg #[.int .i64 E, .int .i64 H, .int .i64 U], .int .i64 p, .int .i64 n] w fun e w' => e = .returned (.bool true) ∧ Below w.heap.size w w' := by
  obtain ⟨R, hR⟩ : ∃ R, giveR E H U p n = R := ⟨_, rfl⟩
  obtain ⟨e, h, u, ge, gu, er⟩ := R
  have HR := Lib.hid hR
  have heq := eql_rb e h u
  have hgd := rb_guard
  have a0 := below1 w (Obj.cells #[Value.int IntKind.i64 E, Value.int IntKind.i64 H, Value.int IntKind.i64 U] 23)
  have kA0 := heap_new' w (Obj.cells #[Value.int IntKind.i64 E, Value.int IntKind.i64 H, Value.int IntKind.i64 U] 23)
  clear hR
  go_enter Try.func5, Try.ntmps5
  go_wp2_with fail
  refine (give_is e h u ge gu er E H U p n _ hH1 hH2 HR.out).mono ?_
  rintro x w1 ⟨rfl, hb1⟩
  have kA1 := blk_keep hb1 kA0
  have a1 := below_on a0 hb1
  have n1 := below1 w1 (Obj.cells #[Value.int IntKind.i64 e, Value.int IntKind.i64 h, Value.int IntKind.i64 u] 23)
  have kC2 := heap_new' w1 (Obj.cells #[Value.int IntKind.i64 e, Value.int IntKind.i64 h, Value.int IntKind.i64 u] 23)
  have kA2 := blk_keep n1 kA1
  have a2 := below_on a1 n1
  have xA := blk_lt kA1
  have eA0 := blk_cell kA1 0 _ rfl
  have eA1 := blk_cell kA1 1 _ rfl
  have eA2 := blk_cell kA1 2 _ rfl
  clear kA0 a0 hb1 n1
  go_wp2_with fail
  refine (plain_any E H U _).mono ?_
  rintro x w3 ⟨rfl, hb3⟩
  have kA3 := blk_keep hb3 kA2
  have kC3 := blk_keep hb3 kC2
  
  have a3 := below_on a2 hb3
  clear xA
  clear eA0 eA1 eA2
  go_wp2_with fail
  refine (rgive_is e h u ge gu er E H U p n _ HR.out).mono ?_
  rintro x w4 ⟨rfl, hb4⟩
  have kA4 := blk_keep hb4 kA3
  have kC4 := blk_keep hb4 kC3
  
  have a4 := below_on a3 hb4
  have n4 := below1 w4 (Obj.cells #[Value.int IntKind.i64 e, Value.int IntKind.i64 h, Value.int IntKind.i64 u] 29)
  have kR5 := heap_new' w4 (Obj.cells #[Value.int IntKind.i64 e, Value.int IntKind.i64 h, Value.int IntKind.i64 u] 29)
  have kA5 := blk_keep n4 kA4
  have kC5 := blk_keep n4 kC4
  
  have a5 := below_on a4 n4
  clear hb3 hb4 n4 a1 a2 a3 a4 kA1 kA2 kA3 kA4 kC2 kC3 kC4
  go_wp2_with fail
  obtain ⟨W, hW⟩ : ∃ W, W = w4.alloc (Obj.cells #[Value.int IntKind.i64 e, Value.int IntKind.i64 h, Value.int IntKind.i64 u] 29) := ⟨_, rfl⟩
  rw [← hW] at kR5 kA5 kC5 a5 ⊢
  
  clear hW
  have c1 : ∀ w', Below W.heap.size W w' → Calls Try.prog 8 #[.agg #[.int .i64 e, .int .i64 h, .int .i64 u]] w' fun x w'' => x = .returned (.agg #[.int .i64 e, .int .i64 h, .int .i64 u]) ∧ Below W.heap.size W w'' :=
    fun w' hw' => (plain_any e h u w').mono (fun x w9 ⟨h1, h2⟩ => ⟨h1, below_on hw' h2⟩)
  have c2 : ∀ w', Below W.heap.size W w' → Calls Try.prog 12 #[] w' fun x w'' => x = .returned (.bool true) ∧ Below W.heap.size W w'' :=
    fun w' hw' => (works_any w').mono (fun x w9 ⟨h1, h2⟩ => ⟨h1, below_on hw' h2⟩)
  clear hH1 hH2
  refine wp_region_calm (by kernel_rfl) ?_ ?_
  · kernel_rfl
  repeat
    (with_reducible apply wpQuiet_step
     intro K hK
     go_simp
     first
       | (refine hK _ ?_; clear hK K)
       | (apply Exists.intro
          refine ⟨fun w' hw' => ?_, hK _ ?_⟩
          ·
            (first
             | with_reducible exact c1 _ hw'
             | with_reducible exact c2 _ hw'
             | (have eA0 := blk_cell (blk_keep hw' kA5) 0 _ rfl
                have eA1 := blk_cell (blk_keep hw' kA5) 1 _ rfl
                have eA2 := blk_cell (blk_keep hw' kA5) 2 _ rfl
                have eC0 := blk_cell (blk_keep hw' kC5) 0 _ rfl
                have eC1 := blk_cell (blk_keep hw' kC5) 1 _ rfl
                have eC2 := blk_cell (blk_keep hw' kC5) 2 _ rfl
                have eR0 := blk_cell (blk_keep hw' kR5) 0 _ rfl
                have eR1 := blk_cell (blk_keep hw' kR5) 1 _ rfl
                have eR2 := blk_cell (blk_keep hw' kR5) 2 _ rfl
                go_simp
                first | done | exact rfl | exact ⟨rfl, rfl⟩ | exact c1 _ hw' | exact c2 _ hw'))
          clear hK K))
  refine wpQuiet_nil ?_
  intro w7 hw7
  go_wp2_with fail
  go_ret
  exact ⟨rfl, below_on a5 hw7⟩
theorem walk_LeaseGives (v0 : Array Value) (a1 : Int) (a2 : Int) (w : World) (_s0 : v0.size = Try.prog.cellsOf 23) (w0 : Rd Try.prog w 23 v0.toList) (_w1 : (Lit.int .i64 a1).wf = true) (_w2 : (Lit.int .i64 a2).wf = true) :
    Calls Try.prog 5 #[.agg v0, .int .i64 a1, .int .i64 a2] w fun e w' => e = .returned (.bool true) ∧ Below w.heap.size w w' := by
  obtain ⟨E, H, U, hc, h1, h2⟩ := book_of w0
  obtain rfl := array_of_list hc
  exact LeaseGives_law E H U a1 a2 w h1 h2
end Go.Proofs.Ytlcbliojggjjfaa
