/-
  The walk of the statement AgreeSame of chapter 20.
-/
import Derived.Test.YtbbacmlcimgjbaaAgSameM
import Derived.Deep.AppendLies
import Derived.Deep.CutBlock
import Derived.Deep.CutRange
namespace Go.Proofs.Ytbbacmlcimgjbaa
open Go.RowKit
attribute [local irreducible] In.ok InAt MyIn LongAt In.same both cmdCells SideAt OptAt RdAt RSideAt CellsAt In.merge Side.begin Side.hear Side.bCh Side.bCy Side.bIn Side.bCode Side.mIn Side.mOk WaysAt rdgCells Has MerAt DoneAt RdgsAt

theorem info_inp : (Try.prog.info? 33).map (fun i => (i.zero, i.size, i.bytes)) = some (some (.agg #[.int .u64 0, .int .u32 0, .int .u32 0, .slice none 0 0]), 4, 40) := by kernel_rfl
theorem info_boo : (Try.prog.info? 4).map (fun i => (i.zero, i.size, i.bytes)) = some (some (.bool false), 1, 1) := by kernel_rfl
theorem made60i : ∃ C : Array Value, C.size = 240 ∧ ∀ w, (Instr.makeSlice 61 (.int .i64 (60 : Int)) (.int .i64 (60 : Int))).run Try.prog w = .ok (.slice (some ⟨w.heap.size, 0, none⟩) 60 60) (w.alloc (.cells C 33)) := by
  obtain ⟨i0, hi, hz0, hz1, hz2⟩ := info_parts info_inp
  refine ⟨madeCells (Value.agg #[.int .u64 0, .int .u32 0, .int .u32 0, .slice none 0 0]).cells (60 * 4), size_madeCells _ _, fun w => ?_⟩
  have := run_makeSlice (P := Try.prog) (w := w) 61 33 i0 (.agg #[.int .u64 0, .int .u32 0, .int .u32 0, .slice none 0 0]) Try.underlying61 hi hz0 .i64 .i64 60 60 (by omega) (by omega) (by rw [hz1]; decide) (by rw [hz2]; decide) (by omega)
  rw [hz1] at this
  exact this
theorem made60b : ∃ C : Array Value, C.size = 60 ∧ (∀ j, j < 60 → C[j]? = some (.bool false)) ∧ ∀ w, (Instr.makeSlice 62 (.int .i64 (60 : Int)) (.int .i64 (60 : Int))).run Try.prog w = .ok (.slice (some ⟨w.heap.size, 0, none⟩) 60 60) (w.alloc (.cells C 4)) := by
  obtain ⟨i0, hi, hz0, hz1, hz2⟩ := info_parts info_boo
  refine ⟨madeCells (Value.bool false).cells (60 * 1), size_madeCells _ _, fun j hj => ?_, fun w => ?_⟩
  · have : (List.range 60).all (fun j => decide ((madeCells (Value.bool false).cells (60 * 1))[j]?.map (fun v => match v with | .bool b => !b | _ => false) = some true)) = true := by kernel_rfl
    have h := List.all_eq_true.1 this j (List.mem_range.2 hj)
    have h2 := of_decide_eq_true h
    obtain ⟨v, h3, h4⟩ := Option.map_eq_some_iff.1 h2
    rw [h3]
    cases v <;> simp at h4
    rw [h4]
  · have := run_makeSlice (P := Try.prog) (w := w) 62 4 i0 (.bool false) Try.underlying62 hi hz0 .i64 .i64 60 60 (by omega) (by omega) (by rw [hz1]; decide) (by rw [hz2]; decide) (by omega)
    rw [hz1] at this
    exact this
theorem WaysAt.at {w : World} {a : Option Addr} {l : List Wy} {k : Nat} {c : Wy} (h : WaysAt w a l) (hc : l[k]? = some c) : LongAt w c.a c.cap c.I ∧ ∃ b off, a = some ⟨b, off, none⟩ ∧
  w.cell? ⟨b, off + k * 7, none⟩ = some (.int .i64 c.k) ∧ w.cell? ⟨b, off + k * 7 + 1, none⟩ = some (.int .i64 c.s) ∧ w.cell? ⟨b, off + k * 7 + 2, none⟩ = some (.int .i64 c.n) ∧
  w.cell? ⟨b, off + k * 7 + 3, none⟩ = some (.int .u64 (c.I.o : Int)) ∧ w.cell? ⟨b, off + k * 7 + 4, none⟩ = some (.int .u32 (c.I.n : Int)) ∧ w.cell? ⟨b, off + k * 7 + 5, none⟩ = some (.int .u32 (c.I.r : Int)) ∧
  w.cell? ⟨b, off + k * 7 + 6, none⟩ = some (.slice c.a c.I.c.length c.cap) := by
  unfold WaysAt at h
  refine ⟨h.1 c (List.mem_of_getElem? hc), ?_⟩
  obtain ⟨b, off, rfl, hcell⟩ := h.2.resolve_left (by rintro rfl; simp at hc)
  exact ⟨b, off, rfl, hcell k c hc⟩

theorem info_rdg : (Try.prog.info? 35).map (fun i => (i.zero, i.size, i.bytes)) = some (some (.agg #[.int .i64 0, .int .i64 0, .int .u64 0, .int .u32 0, .int .u32 0, .slice none 0 0]), 6, 56) := by kernel_rfl
theorem lit6 {w : World} {g : Nat} {a0 a1 a2 a3 a4 a5 : Value} {t : TypeId} (h : w.heap[g]? = some (.cells #[a0, a1, a2, a3, a4, a5] t (0, 0))) : ∀ (j : Nat) (u : Value), [a0, a1, a2, a3, a4, a5][j]? = some u → w.cell? ((⟨g, 0, none⟩ : Addr).add j) = some u := by
  intro j u hu
  have : (⟨g, 0, none⟩ : Addr).add j = ⟨g, 0 + j, none⟩ := by unfold Addr.add; split <;> simp_all
  rw [this, Nat.zero_add]
  exact blk_cell h j u (by rw [← hu]; exact List.getElem?_toArray)
theorem one6 (a0 a1 a2 a3 a4 a5 : Value) (h0 : a0.oneCell' = true) (h1 : a1.oneCell' = true) (h2 : a2.oneCell' = true) (h3 : a3.oneCell' = true) (h4 : a4.oneCell' = true) (h5 : a5.oneCell' = true) : ∀ u ∈ [a0, a1, a2, a3, a4, a5], u.oneCell' = true := by
  intro u hu
  simp only [List.mem_cons, List.not_mem_nil, or_false] at hu
  rcases hu with rfl | rfl | rfl | rfl | rfl | rfl <;> assumption
theorem app_one {w wc : World} {g : Nat → Nat} {X : Nat → Nat → Prop} {s : Nat → Side} {L : List Rdg} {D : Nat → Option In} {b3 b5 b6 : Nat} {v : Value} (hS6 : SM w.heap.size wc g X s L D b3 b5 b6 v) (c y : Int) (I : In) (aC : Option Addr) (cC : Nat) (hC : Has wc aC cC I)
    (W' : World) (gk : Nat) (cap : Nat) (w' : World) (hb : Below wc.heap.size wc W') (hB6 : Below w.heap.size w wc)
    (hown : w'.ownsRow w.heap.size 35 6 (.slice (some ⟨gk, 0, none⟩) (L.length + 1) cap) (L.length + 1) (rdgCells L ++ [.int .i64 c, .int .i64 y, .int .u64 (I.o : Int), .int .u32 (I.n : Int), .int .u32 (I.r : Int), .slice aC I.c.length cC])) (hg : W'.grownBy w' v.ownBlock) (hgv : v.ownBlock = some gk ∨ gk = W'.heap.size) :
    SM w.heap.size w' g X s (L ++ [⟨c, y, I, aC, cC⟩]) D b3 b5 b6 (.slice (some ⟨gk, 0, none⟩) (L.length + 1) cap) ∧ Below w.heap.size w w' := by
  have hS7 := hS6.below hb
  have hB7 := hB6.trans (hb.mono hB6.size)
  refine ⟨hS7.app ⟨c, y, I, aC, cC⟩ (hC.keep (KeepT.below hb)) ?_ ?_ hg, hB7.grown hg hB7.size (fun k hk => (hS7.vlt hk).1)⟩
  · rw [rdgCells_append]; simp only [rdgCells]; exact hown
  · intro q hq
    cases hq
    rcases hgv with h | h
    · exact .inl h
    · exact .inr (Nat.le_of_eq h.symm)

theorem nat30 (t : Nat) (ht : t < 30) : (t : Int) < 60 ∧ 30 + (t : Int) < 60 ∧ (30 + (t : Int)).toNat = 30 + t ∧ wrap64 (30 + (t : Int)) = 30 + (t : Int) ∧ IntKind.i64.wrap (30 + (t : Int)) = 30 + (t : Int) ∧ (0 : Int) ≤ 30 + (t : Int) := by
  have t4 : wrap64 (30 + (t : Int)) = 30 + (t : Int) := by unfold wrap64; omega
  exact ⟨by omega, by omega, by omega, t4, by rw [IntWalk.i64_left]; exact t4, by omega⟩
theorem two_same {W : World} {b5 : Nat} {D : Nat → Option In} {t : Nat} {M1 M2 : In} (h : MerAt W b5 D) (ht : t < 30) (h1 : D t = some M1) (h2 : D (30 + t) = some M2) (hs : M1.same M2 = true) :
    ∃ (a1 : Option Addr) (c1 : Nat) (a2 : Option Addr) (c2 : Nat), (∀ w', Below W.heap.size W w' → Calls Try.prog 22 #[.agg #[.int .u64 (M1.o : Int), .int .u32 (M1.n : Int), .int .u32 (M1.r : Int), .slice a1 M1.c.length c1], .agg #[.int .u64 (M2.o : Int), .int .u32 (M2.n : Int), .int .u32 (M2.r : Int), .slice a2 M2.c.length c2]] w' fun e w'' => e = .returned (.bool true) ∧ Below W.heap.size W w'') ∧
      ∀ w', Below W.heap.size W w' → w'.cell? ⟨b5, t * 4, none⟩ = some (.int .u64 (M1.o : Int)) ∧ w'.cell? ⟨b5, t * 4 + 1, none⟩ = some (.int .u32 (M1.n : Int)) ∧ w'.cell? ⟨b5, t * 4 + 2, none⟩ = some (.int .u32 (M1.r : Int)) ∧ w'.cell? ⟨b5, t * 4 + 3, none⟩ = some (.slice a1 M1.c.length c1) ∧
        w'.cell? ⟨b5, (30 + t) * 4, none⟩ = some (.int .u64 (M2.o : Int)) ∧ w'.cell? ⟨b5, (30 + t) * 4 + 1, none⟩ = some (.int .u32 (M2.n : Int)) ∧ w'.cell? ⟨b5, (30 + t) * 4 + 2, none⟩ = some (.int .u32 (M2.r : Int)) ∧ w'.cell? ⟨b5, (30 + t) * 4 + 3, none⟩ = some (.slice a2 M2.c.length c2) := by
  unfold MerAt at h
  obtain ⟨C, k5, _, k5v⟩ := h
  obtain ⟨a1, c1, x0, x1, x2, x3, hh1⟩ := k5v t (by omega) M1 h1
  obtain ⟨a2, c2, y0, y1, y2, y3, hh2⟩ := k5v (30 + t) (by omega) M2 h2
  unfold Has at hh1 hh2
  refine ⟨a1, c1, a2, c2, fun w' hw' => ?_, fun w' hw' => ?_⟩
  · refine (refsame_in M1 M2 a1 a2 c1 c2 w' (hh1.2.below hw') (hh2.2.below hw')).mono ?_
    rintro e w9 ⟨h1, h2⟩
    exact ⟨by rw [h1, hs], below_on hw' h2⟩
  · have k5 := blk_keep hw' k5
    exact ⟨blk_cell k5 _ _ x0, blk_cell k5 _ _ x1, blk_cell k5 _ _ x2, blk_cell k5 _ _ x3, blk_cell k5 _ _ y0, blk_cell k5 _ _ y1, blk_cell k5 _ _ y2, blk_cell k5 _ _ y3⟩
theorem sub1 (q : Nat) (h : q < 2) : wrap64 (1 - (q : Int)) = 1 - (q : Int) ∧ IntKind.i64.wrap (1 - (q : Int)) = 1 - (q : Int) := by
  have t4 : wrap64 (1 - (q : Int)) = 1 - (q : Int) := by unfold wrap64; omega
  exact ⟨t4, by rw [IntWalk.i64_left]; exact t4⟩
theorem mod_nat (x : Int) (n : Nat) (h : 0 < n) : ∃ j : Nat, x % (n : Int) = (j : Int) ∧ j < n := by
  have h1 := Int.emod_nonneg x (show (n : Int) ≠ 0 by omega)
  have h2 := Int.emod_lt_of_pos x (show (0 : Int) < n by omega)
  exact ⟨(x % (n : Int)).toNat, by omega, by omega⟩
theorem set6 {w : World} {g : Nat} {a0 a1 a2 a3 a4 a5 : Value} {t : TypeId} {fr : Nat × Nat} (h0 : w.heap[g]? = some (.cells #[a0, a1, a2, a3, a4, a5] t fr)) (u0 u1 u2 u3 u4 u5 : Value) :
    ((((((w.setCell ⟨g, 0, none⟩ u0).setCell ⟨g, 1, none⟩ u1).setCell ⟨g, 2, none⟩ u2).setCell ⟨g, 3, none⟩ u3).setCell ⟨g, 4, none⟩ u4).setCell ⟨g, 5, none⟩ u5).heap[g]? = some (.cells #[u0, u1, u2, u3, u4, u5] t fr) ∧ Only g w ((((((w.setCell ⟨g, 0, none⟩ u0).setCell ⟨g, 1, none⟩ u1).setCell ⟨g, 2, none⟩ u2).setCell ⟨g, 3, none⟩ u3).setCell ⟨g, 4, none⟩ u4).setCell ⟨g, 5, none⟩ u5) := by
  have o0 : Only g w w := Only.refl g w
  have h1 : (w.setCell ⟨g, 0, none⟩ u0).heap[g]? = some (.cells #[u0, a1, a2, a3, a4, a5] t fr) := blk_set h0 0 u0
  have o1 := o0.setCell (p := ⟨g, 0, none⟩) rfl u0
  generalize w.setCell ⟨g, 0, none⟩ u0 = w1 at h1 o1 ⊢
  have h2 : (w1.setCell ⟨g, 1, none⟩ u1).heap[g]? = some (.cells #[u0, u1, a2, a3, a4, a5] t fr) := blk_set h1 1 u1
  have o2 := o1.setCell (p := ⟨g, 1, none⟩) rfl u1
  generalize w1.setCell ⟨g, 1, none⟩ u1 = w2 at h2 o2 ⊢
  have h3 : (w2.setCell ⟨g, 2, none⟩ u2).heap[g]? = some (.cells #[u0, u1, u2, a3, a4, a5] t fr) := blk_set h2 2 u2
  have o3 := o2.setCell (p := ⟨g, 2, none⟩) rfl u2
  generalize w2.setCell ⟨g, 2, none⟩ u2 = w3 at h3 o3 ⊢
  have h4 : (w3.setCell ⟨g, 3, none⟩ u3).heap[g]? = some (.cells #[u0, u1, u2, u3, a4, a5] t fr) := blk_set h3 3 u3
  have o4 := o3.setCell (p := ⟨g, 3, none⟩) rfl u3
  generalize w3.setCell ⟨g, 3, none⟩ u3 = w4 at h4 o4 ⊢
  have h5 : (w4.setCell ⟨g, 4, none⟩ u4).heap[g]? = some (.cells #[u0, u1, u2, u3, u4, a5] t fr) := blk_set h4 4 u4
  have o5 := o4.setCell (p := ⟨g, 4, none⟩) rfl u4
  generalize w4.setCell ⟨g, 4, none⟩ u4 = w5 at h5 o5 ⊢
  have h6 : (w5.setCell ⟨g, 5, none⟩ u5).heap[g]? = some (.cells #[u0, u1, u2, u3, u4, u5] t fr) := blk_set h5 5 u5
  have o6 := o5.setCell (p := ⟨g, 5, none⟩) rfl u5
  generalize w5.setCell ⟨g, 5, none⟩ u5 = w6 at h6 o6 ⊢
  exact ⟨h6, o6⟩
theorem boxA {W w6 : World} {h S M cC : Nat} {Y YB : Nat → Prop} {aC : Option Addr} {s : Side} {J : In} {c' y' r : Int} {a0 a1 a2 a3 a4 a5 : Value} (kz6 : w6.heap[W.heap.size]? = some (.cells #[a0, a1, a2, a3, a4, a5] 35 (0, 0)))
    (hR6 : SideAt w6 YB h s) (hyb : ∀ j, Y j → j < W.heap.size) (hlt : h < W.heap.size) (hS : W.heap.size < S) (hgr : Gr Y YB S M) (hiC : MyIn w6 S aC ∧ InAt w6 aC cC J) (ho6 : Only h W w6) :
    ∃ (zc : Nat) (YB' : Nat → Prop) (M' : Nat) (aD : Option Addr) (cD : Nat), Value.pointer (some ⟨W.heap.size, 0, none⟩) = .pointer (some ⟨zc, 0, none⟩) ∧ Value.int .i64 r = .int .i64 r ∧
      ((((((w6.setCell ⟨W.heap.size, 0, none⟩ (.int .i64 c')).setCell ⟨W.heap.size, 1, none⟩ (.int .i64 y')).setCell ⟨W.heap.size, 2, none⟩ (.int .u64 (J.o : Int))).setCell ⟨W.heap.size, 3, none⟩ (.int .u32 (J.n : Int))).setCell ⟨W.heap.size, 4, none⟩ (.int .u32 (J.r : Int))).setCell ⟨W.heap.size, 5, none⟩ (.slice aC J.c.length cC)).heap[zc]? = some (Obj.cells #[.int .i64 c', .int .i64 y', .int .u64 (J.o : Int), .int .u32 (J.n : Int), .int .u32 (J.r : Int), .slice aD J.c.length cD] 35 (0, 0)) ∧ SideAt ((((((w6.setCell ⟨W.heap.size, 0, none⟩ (.int .i64 c')).setCell ⟨W.heap.size, 1, none⟩ (.int .i64 y')).setCell ⟨W.heap.size, 2, none⟩ (.int .u64 (J.o : Int))).setCell ⟨W.heap.size, 3, none⟩ (.int .u32 (J.n : Int))).setCell ⟨W.heap.size, 4, none⟩ (.int .u32 (J.r : Int))).setCell ⟨W.heap.size, 5, none⟩ (.slice aC J.c.length cC)) YB' h s ∧ Gr Y YB' W.heap.size M' ∧ Has ((((((w6.setCell ⟨W.heap.size, 0, none⟩ (.int .i64 c')).setCell ⟨W.heap.size, 1, none⟩ (.int .i64 y')).setCell ⟨W.heap.size, 2, none⟩ (.int .u64 (J.o : Int))).setCell ⟨W.heap.size, 3, none⟩ (.int .u32 (J.n : Int))).setCell ⟨W.heap.size, 4, none⟩ (.int .u32 (J.r : Int))).setCell ⟨W.heap.size, 5, none⟩ (.slice aC J.c.length cC)) aD cD J ∧ Only h W ((((((w6.setCell ⟨W.heap.size, 0, none⟩ (.int .i64 c')).setCell ⟨W.heap.size, 1, none⟩ (.int .i64 y')).setCell ⟨W.heap.size, 2, none⟩ (.int .u64 (J.o : Int))).setCell ⟨W.heap.size, 3, none⟩ (.int .u32 (J.n : Int))).setCell ⟨W.heap.size, 4, none⟩ (.int .u32 (J.r : Int))).setCell ⟨W.heap.size, 5, none⟩ (.slice aC J.c.length cC)) := by
  obtain ⟨kf, hof⟩ := set6 kz6 (.int .i64 c') (.int .i64 y') (.int .u64 (J.o : Int)) (.int .u32 (J.n : Int)) (.int .u32 (J.r : Int)) (.slice aC J.c.length cC)
  refine ⟨W.heap.size, YB, M, aC, cC, rfl, rfl, kf, hR6.only hof (by omega) ?_, fun j hj => (hgr j hj).imp id (fun ⟨p, q⟩ => ⟨by omega, q⟩), Has.of (my_only hiC hof hS), ho6.after hof (Nat.le_refl _)⟩
  intro hy
  rcases hgr _ hy with h1 | ⟨h1, _⟩
  · have := hyb _ h1; omega
  · omega
theorem boxB {W w6 : World} {h S M cC : Nat} {Y YB : Nat → Prop} {aC : Option Addr} {s : Side} {J : In} {c' y' r : Int}
    (hR6 : SideAt w6 YB h s) (hS : W.heap.size ≤ S) (hgr : Gr Y YB S M) (hiC : MyIn w6 S aC ∧ InAt w6 aC cC J) (ho6 : Only h W w6) :
    ∃ (zc : Nat) (YB' : Nat → Prop) (M' : Nat) (aD : Option Addr) (cD : Nat), Value.pointer (some ⟨w6.heap.size, 0, none⟩) = .pointer (some ⟨zc, 0, none⟩) ∧ Value.int .i64 r = .int .i64 r ∧
      (w6.alloc (Obj.cells #[.int .i64 c', .int .i64 y', .int .u64 (J.o : Int), .int .u32 (J.n : Int), .int .u32 (J.r : Int), .slice aC J.c.length cC] 35)).heap[zc]? = some (Obj.cells #[.int .i64 c', .int .i64 y', .int .u64 (J.o : Int), .int .u32 (J.n : Int), .int .u32 (J.r : Int), .slice aD J.c.length cD] 35 (0, 0)) ∧ SideAt (w6.alloc (Obj.cells #[.int .i64 c', .int .i64 y', .int .u64 (J.o : Int), .int .u32 (J.n : Int), .int .u32 (J.r : Int), .slice aC J.c.length cC] 35)) YB' h s ∧ Gr Y YB' W.heap.size M' ∧ Has (w6.alloc (Obj.cells #[.int .i64 c', .int .i64 y', .int .u64 (J.o : Int), .int .u32 (J.n : Int), .int .u32 (J.r : Int), .slice aC J.c.length cC] 35)) aD cD J ∧ Only h W (w6.alloc (Obj.cells #[.int .i64 c', .int .i64 y', .int .u64 (J.o : Int), .int .u32 (J.n : Int), .int .u32 (J.r : Int), .slice aC J.c.length cC] 35)) :=
  ⟨w6.heap.size, YB, M, aC, cC, rfl, rfl, heap_new1 _ _, hR6.below (below1 _ _), fun j hj => (hgr j hj).imp id (fun ⟨p, q⟩ => ⟨Nat.le_trans hS p, q⟩), (Has.of hiC).keep (KeepT.below (below1 _ _)), ho6.trans (Only.of_below (below1 _ _))⟩
theorem begin_from (W : World) (s : Side) (X : Nat → Prop) (g : Nat) (cy : Int) (I : In) (a : Option Addr) (cap : Nat) (w : World) (h : SideAt W X g s) (hin : InAt W a cap I) (hag : I.c ≠ [] → ¬ Blk a g) (hb : Below W.heap.size W w) :
    Calls Try.prog 13 #[.pointer (some ⟨g, 0, none⟩), .int .i64 cy, .agg #[.int .u64 (I.o : Int), .int .u32 (I.n : Int), .int .u32 (I.r : Int), .slice a I.c.length cap]] w
      fun e w' => ∃ X' M a' cap', e = .returned (.tuple #[.agg #[.int .i64 (s.bCh cy), .int .i64 (s.bCy cy), .int .u64 ((s.bIn cy I).o : Int), .int .u32 ((s.bIn cy I).n : Int), .int .u32 ((s.bIn cy I).r : Int), .slice a' (s.bIn cy I).c.length cap'], .int .i64 (s.bCode cy)]) ∧
        SideAt w' X' g (s.begin cy I) ∧ Gr X X' w.heap.size M ∧ (MyIn w' w.heap.size a' ∧ InAt w' a' cap' (s.bIn cy I)) ∧ Only g W w' ∧ Only g w w' := by
  refine (begin_any s X g cy I a cap w (h.below hb) (hin.below hb) hag).mono ?_
  rintro e w' ⟨X', M, a', cap', h1, h2, h3, h4, h5, h6, h7⟩
  exact ⟨X', M, a', cap', h1, h2, h3, ⟨h5.mono h4, h6⟩, (Only.of_below hb).trans h7, h7⟩
theorem pick_is (i n v : Int) (w : World) (hn : 0 < n) (hm : n < 1000) (hv : i % n = v) : Calls Try.prog 12 #[.int .i64 i, .int .i64 n] w fun e w' => e = .returned (.int .i64 v) ∧ w = w' := hv ▸ pick_any i n w hn hm
theorem name_handed {J : Nat → Act → World → Prop} {gk : Nat} {a : Act} {w : World} (h : ∀ W, W = w → Handed J gk a W) : Handed J gk a w := h w rfl
/-- the two sides' blocks -/
def duo (g0 g1 : Nat) (k : Nat) : Nat := if k = 0 then g0 else g1
theorem SM.start {B g0 g1 : Nat} {w : World} {C5 C6 : Array Value} (hA : SideAt w (fun _ => False) g0 (Side.new 0)) (hB : SideAt w (fun _ => False) g1 (Side.new 1)) (h01 : ¬ g0 = g1) (b0 : B ≤ g0) (b1 : B ≤ g1) (h5 : C5.size = 240) (h6 : C6.size = 60) (hv : ∀ j, j < 60 → C6[j]? = some (.bool false)) :
    SM B (((w.alloc (Obj.cells #[.pointer (some ⟨g0, 0, none⟩), .pointer (some ⟨g1, 0, none⟩)] 25)).alloc (Obj.cells C5 33)).alloc (Obj.cells C6 4)) (duo g0 g1) (fun _ _ => False) (fun k => Side.new (k : Int)) [] (fun _ => none) w.heap.size (w.heap.size + 1) (w.heap.size + 1 + 1) (.slice none 0 0) := by
  obtain ⟨k0, k1, k2⟩ := alloc3' w (Obj.cells #[.pointer (some ⟨g0, 0, none⟩), .pointer (some ⟨g1, 0, none⟩)] 25) (Obj.cells C5 33) (Obj.cells C6 4)
  have hb := below3 w (Obj.cells #[.pointer (some ⟨g0, 0, none⟩), .pointer (some ⟨g1, 0, none⟩)] 25) (Obj.cells C5 33) (Obj.cells C6 4)
  have l0 := hA.lt
  refine ⟨?_, k0, ?_, by simp, ?_, ?_, ?_, by omega, by omega, h01, fun _ _ _ _ h => h, fun _ _ h => h, fun _ _ h => h, fun _ _ _ _ h => h⟩
  · intro k hk
    rcases (show k = 0 ∨ k = 1 by omega) with rfl | rfl
    · exact hA.below hb
    · exact hB.below hb
  · unfold rdgCells; exact World.ownsRow_nil _ _ _ _
  · unfold MerAt; exact ⟨C5, k1, h5, fun _ _ _ h => by cases h⟩
  · unfold DoneAt; exact ⟨C6, k2, h6, fun j hj => hv j hj⟩
  · intro k hk
    unfold duo
    split
    · exact b0
    · exact b1
theorem SM.cell {B : Nat} {w : World} {g : Nat → Nat} {X : Nat → Nat → Prop} {s : Nat → Side} {L : List Rdg} {D : Nat → Option In} {b3 b5 b6 : Nat} {v : Value} (m : SM B w g X s L D b3 b5 b6 v) {q : Nat} (hq : q < 2) : w.cell? ⟨b3, q, none⟩ = some (.pointer (some ⟨g q, 0, none⟩)) := by
  rcases (show q = 0 ∨ q = 1 by omega) with rfl | rfl
  · exact blk_cell m.row 0 _ rfl
  · exact blk_cell m.row 1 _ rfl

set_option maxRecDepth 100000 in
set_option maxHeartbeats 40000000 in
theorem same_law (a : Option Addr) (n cap : Nat) (l : List Wy) (w : World) (hn : l.length = n) (hm : n ≤ maxLen) (hl : WaysAt w a l) :
    Calls Try.prog 4 #[.slice a n cap] w fun e w' => e = .returned (.bool true) ∧ Below w.heap.size w w' := by
  have hm2 : (n : Int) ≤ 9223372036854775807 := by unfold maxLen at hm; omega
  by_cases h80 : 80 < n
  · have d1 : decide ((n : Int) > 80) = true := decide_eq_true (by omega)
    have d2 : decide (80 < (n : Int)) = true := decide_eq_true (by omega)
    go_enter Try.func4, Try.ntmps4
    go_wp2_with fail
    refine (works_any _).mono ?_
    rintro e w2 ⟨rfl, hb2⟩
    go_wp2_with fail
    go_ret
    exact ⟨rfl, hb2⟩
  have d1 : decide ((n : Int) > 80) = false := decide_eq_false (by omega)
  have d2 : decide (80 < (n : Int)) = false := decide_eq_false (by omega)
  obtain ⟨C5, hC5, m5⟩ := made60i
  obtain ⟨C6, hC6, hC6v, m6⟩ := made60b
  have HN := Lib.hid hn
  have HL := Lib.hid hl
  clear hn hm hl
  go_enter Try.func4, Try.ntmps4
  go_wp2_with fail
  refine (new_is 0 w (.inl rfl)).mono ?_
  rintro e w1 ⟨rfl, hA, hb1⟩
  obtain ⟨g0, hg0⟩ : ∃ g, g = w.heap.size := ⟨_, rfl⟩
  rw [← hg0] at hA ⊢
  have hAl := hA.lt
  have HG0 := Lib.hid hg0
  clear hg0
  go_wp2_with fail
  refine (new_is 1 w1 (.inr rfl)).mono ?_
  rintro e w2 ⟨rfl, hB, hb2⟩
  obtain ⟨g1, hg1⟩ : ∃ g, g = w1.heap.size := ⟨_, rfl⟩
  rw [← hg1] at hB ⊢
  have hA := hA.below hb2
  have hb := below_on hb1 hb2
  have hgg : ¬ g0 = g1 := by omega
  have hg0w : w.heap.size ≤ g0 := Nat.le_of_eq HG0.out.symm
  have hg1w : w.heap.size ≤ g1 := by rw [hg1]; exact hb1.size
  clear hg1 hb1 hb2 hAl
  have hSM := SM.start (B := w.heap.size) (C5 := C5) (C6 := C6) hA hB hgg hg0w hg1w hC5 hC6 hC6v
  have hbb := hb.trans ((below3 w2 (Obj.cells #[.pointer (some ⟨g0, 0, none⟩), .pointer (some ⟨g1, 0, none⟩)] 25) (Obj.cells C5 33) (Obj.cells C6 4)).mono hb.size)
  obtain ⟨b3, hb3⟩ : ∃ b, b = w2.heap.size := ⟨_, rfl⟩
  obtain ⟨b5, hb5⟩ : ∃ b, b = w2.heap.size + 1 := ⟨_, rfl⟩
  obtain ⟨b6, hb6⟩ : ∃ b, b = w2.heap.size + 1 + 1 := ⟨_, rfl⟩
  have HSM := Lib.hid hSM
  have HBB := Lib.hid hbb
  have H5 := Lib.hid hb5
  have H6 := Lib.hid hb6
  have H3 := Lib.hid hb3
  clear hSM hbb hA hB hC5 hC6 hC6v hb3 hb5 hb6 hb
  go_wp2_with fail
  rw [← H3.out, show b3 + 1 = b5 by rw [H5.out, H3.out], show b5 + 1 = b6 by rw [H6.out, H5.out]]
  go_loopg [4, 7] n (fun m s4 i wr => ∃ (v : Value) (k : Nat) (X : Nat → Nat → Prop) (s : Nat → Side) (L : List Rdg) (D : Nat → Option In), v = s4 ∧ k + m = n ∧ i = .int .i64 (k : Nat) ∧ L.length ≤ k ∧ Inv s L D ∧ SM w.heap.size wr (duo g0 g1) X s L D b3 b5 b6 v ∧ Below w.heap.size w wr)
  case atStart =>
    refine ⟨.slice none 0 0, 0, fun _ _ => False, fun k => Side.new (k : Int), [], fun _ => none, rfl, by omega, rfl, by simp, Inv.start, ?_, HBB.out⟩
    rw [H3.out, H5.out, H6.out]; exact HSM.out
  case round =>
    obtain ⟨v, k, X, s, L, D, rfl, hk, rfl, hLk, hI, hS, hB⟩ := hrel
    by_cases hkn : k < n
    · obtain ⟨x, hx⟩ : ∃ x, l[k]? = some x := ⟨_, List.getElem?_eq_getElem (by rw [HN.out]; exact hkn)⟩
      obtain ⟨hlong, b, off, rfl, _⟩ := HL.out.at hx
      have hlm : x.I.c.length ≤ 9223372036854775807 := by unfold LongAt maxLen at hlong; exact hlong.1.2.2.2
      have HROW : Hid (∀ w', Below w.heap.size w w' → LongAt w' x.a x.cap x.I ∧ w'.cell? ⟨b, off + k * 7, none⟩ = some (.int .i64 x.k) ∧ w'.cell? ⟨b, off + k * 7 + 1, none⟩ = some (.int .i64 x.s) ∧ w'.cell? ⟨b, off + k * 7 + 2, none⟩ = some (.int .i64 x.n) ∧
          w'.cell? ⟨b, off + k * 7 + 3, none⟩ = some (.int .u64 (x.I.o : Int)) ∧ w'.cell? ⟨b, off + k * 7 + 4, none⟩ = some (.int .u32 (x.I.n : Int)) ∧ w'.cell? ⟨b, off + k * 7 + 5, none⟩ = some (.int .u32 (x.I.r : Int)) ∧
          w'.cell? ⟨b, off + k * 7 + 6, none⟩ = some (.slice x.a x.I.c.length x.cap)) := Lib.hid (fun w' hw' => by
        obtain ⟨hlong, b', off', e, h⟩ := (HL.out.below hw').at hx
        cases e
        exact ⟨hlong, h⟩)
      obtain ⟨_, c0, c1, c2, c3, c4, c5, c6⟩ := HROW.out wr hB
      have e1 : (k : Int) < n := by omega
      clear hx
      by_cases h20 : x.I.c.length ≤ 20
      · have du1 : decide ((x.I.c.length : Int) > 20) = false := decide_eq_false (by omega)
        have du2 : decide (20 < (x.I.c.length : Int)) = false := decide_eq_false (by omega)
        have hin := hlong.short h20
        have HBLK : Hid (x.I.c ≠ [] → ∀ k, Blk x.a k → k < w.heap.size) := Lib.hid (fun hc k hk => by
          obtain ⟨y, y1, y2⟩ := hk
          have hcm := hin.cmds
          rcases hcm.2 with h0 | ⟨p, o, e, hcell⟩
          · exact absurd h0 hc
          · rw [e] at y1
            cases y1
            subst y2
            cases hl2 : x.I.c with
            | nil => exact absurd hl2 hc
            | cons q l => exact World.block_lt_of_cell? _ ⟨p, _, none⟩ (hcell 0 q (by rw [hl2]; rfl)).1)
        have HIN : Hid (∀ w', Below w.heap.size w w' → InAt w' x.a x.cap x.I) := Lib.hid (fun w' hw' => hin.below hw')
        obtain ⟨q, hq, hq2⟩ : ∃ q : Nat, x.s % 2 = (q : Int) ∧ q < 2 := ⟨(x.s % 2).toNat, by omega, by omega⟩
        clear h20 hlong hin
        go_wp2_with fail
        refine (pick_any x.s 2 wr (by omega) (by omega)).mono ?_
        rintro e w3 ⟨rfl, rfl⟩
        rw [hq]
        have hcell := hS.cell hq2
        have q1 : (q : Int) < 2 := by omega
        have HQ := Lib.hid hq
        clear hq
        go_wp2_with fail
        refine (pick_any x.k 4 wr (by omega) (by omega)).mono ?_
        rintro e w3 ⟨rfl, rfl⟩
        go_upto_block 2 with fail
        go_cut [4] from 25 to 177 (fun s4 wx => ∃ (v' : Value) (X' : Nat → Nat → Prop) (s' : Nat → Side) (L' : List Rdg), v' = s4 ∧ L'.length ≤ k + 1 ∧ Inv s' L' D ∧ SM w.heap.size wx (duo g0 g1) X' s' L' D b3 b5 b6 v' ∧ Below w.heap.size w wx)
        case first =>
          cases h0 : (x.k % 4 == 0) with
          | true =>
            obtain ⟨jn, hj, hj30⟩ := mod_nat x.n 30 (by omega)
            have hag : x.I.c ≠ [] → ¬ Blk x.a (duo g0 g1 q) := fun hc hk => by have := HBLK.out hc _ hk; have := hS.bg q hq2; omega
            have hin := HIN.out wr hB
            have hsd := hS.side q hq2
            have hYB5 := hsd.bound
            have hlt5 := hsd.lt
            have hbw : b < wr.heap.size := World.block_lt_of_cell? _ ⟨b, off + k * 7, none⟩ c0
            have hBd := hB.drew
            have HJ : Hid (x.n % 30 = (jn : Int)) := Lib.hid hj
            clear hj
            go_upto_region 18 with fail
            go_cut [10, 11] from 75 to 91 (fun s10 s11 wx => ∃ (zr : Nat) (Y : Nat → Prop) (M : Nat) (aC : Option Addr) (cC : Nat), s10 = .pointer (some ⟨zr, 0, none⟩) ∧ s11 = .int .i64 ((s q).bCode jn) ∧
              wx.heap[zr]? = some (Obj.cells #[.int .i64 ((s q).bCh jn), .int .i64 ((s q).bCy jn), .int .u64 (((s q).bIn jn x.I).o : Int), .int .u32 (((s q).bIn jn x.I).n : Int), .int .u32 (((s q).bIn jn x.I).r : Int), .slice aC ((s q).bIn jn x.I).c.length cC] 35 (0, 0)) ∧
              SideAt wx Y (duo g0 g1 q) ((s q).begin jn x.I) ∧ Gr (X q) Y wr.heap.size M ∧ Has wx aC cC ((s q).bIn jn x.I) ∧ Only (duo g0 g1 q) wr wx)
            case first =>
              clear c0 c1 c2 c3 c4 c5 c6
              obtain ⟨_, c0, c1, c2, c3, c4, c5, c6⟩ := HROW.out wr.drew hBd
              obtain ⟨_, t0, t1, t2, t3, t4, t5, t6⟩ := HROW.out (wr.alloc (Obj.cells #[.int .i64 0, .int .i64 0, .int .u64 0, .int .u32 0, .int .u32 0, .slice none 0 0] 35)).drew (hB.trans (((below1 wr _).drew).mono hB.size))
              have kz : (wr.alloc (Obj.cells #[.int .i64 0, .int .i64 0, .int .u64 0, .int .u32 0, .int .u32 0, .slice none 0 0] 35)).drew.heap[wr.heap.size]? = some (Obj.cells #[.int .i64 0, .int .i64 0, .int .u64 0, .int .u32 0, .int .u32 0, .slice none 0 0] 35) := heap_new1 _ _
              have hzn : ¬ wr.heap.size = duo g0 g1 q := by omega
              have hsz := blk_lt kz
              go_region_with (first
                | (go_at_call 12; refine (pick_is x.n 30 jn _ (by omega) (by omega) HJ.out).mono ?_; rintro e w4 ⟨rfl, rfl⟩)
                | (go_at_call 13; refine (begin_from wr (s q) (X q) (duo g0 g1 q) jn x.I x.a x.cap _ hsd hin hag (by first | exact (Below.refl _ _).drew | exact (below1 _ _).drew)).mono ?_; rintro e w6 ⟨YB, M6, aC, cC, rfl, hR6, hgr6, hiC, ho6, hoo6⟩; try (have kz6 := hoo6.keep hzn kz; have z0 := blk_cell kz6 0 _ rfl; have z1 := blk_cell kz6 1 _ rfl; have z2 := blk_cell kz6 2 _ rfl; have z3 := blk_cell kz6 3 _ rfl; have z4 := blk_cell kz6 4 _ rfl; have z5 := blk_cell kz6 5 _ rfl; have fz := blk_free kz6)))
              all_goals go_wp2_with fail
              all_goals go_meet
              all_goals first
                | exact boxA (W := wr) (w6 := w6) kz6 hR6 hYB5 hlt5 hsz hgr6 hiC ho6
                | exact boxB (W := wr) (w6 := w6) hR6 (Nat.le_refl _) hgr6 hiC ho6
            case rest =>
            obtain ⟨zr, Y, M, aC, cC, rfl, rfl, kr, hA6, hgr6, hC6, ho6⟩ := hcut
            have hS6 := hS.step hq2 hA6 hgr6 ho6
            have hB6 := Only.below hB (hS.bg q hq2) hB.size ho6
            by_cases hc : (jn : Int) ≤ (s q).cy
            · have e1 : (s q).bCode jn = 2 := by unfold Side.bCode; rw [if_pos hc]
              rw [e1]
              go_wp2_with fail
              go_meet
              exact ⟨v, _, _, L, rfl, by omega, hI.same (by unfold Side.begin; rw [if_pos hc]), hS6, hB6⟩
            · have e1 : (s q).bCode jn = 0 := by unfold Side.bCode; rw [if_neg hc]
              have e2 : (s q).bCh jn = (q : Int) := by unfold Side.bCh; rw [if_neg hc, hI.c q hq2]
              have e3 : (s q).bCy jn = (jn : Int) := by unfold Side.bCy; rw [if_neg hc]
              have e4 : (s q).bIn jn x.I = x.I := by unfold Side.bIn; rw [if_neg hc]
              rw [e2, e3, e4] at kr
              rw [e4] at hC6
              rw [e1]
              have hI6 := hI.begin hq2 hc (by omega) x.I aC cC
              have HAP := Lib.hid (fun W' g' cap' w' (hb : Below wc.heap.size wc W') hown hg hgv => app_one hS6 (q : Int) (jn : Int) x.I aC cC hC6 W' g' cap' w' hb hB6 hown hg hgv)
              have z0 := blk_cell kr 0 _ rfl
              have z1 := blk_cell kr 1 _ rfl
              have z2 := blk_cell kr 2 _ rfl
              have z3 := blk_cell kr 3 _ rfl
              have z4 := blk_cell kr 4 _ rfl
              have z5 := blk_cell kr 5 _ rfl
              have fz := blk_free kr
              have hL80 : L.length < 80 := by omega
              obtain ⟨i0, hi, hz0, hz1, hz2⟩ := info_parts info_rdg
              clear c0 c1 c2 c3 c4 c5 c6 e1 e2 e3 e4 kr hA6 hgr6 ho6
              go_wp2_with (at_builtin; refine name_worldL ?_; intro W hW; have hb6 : Below wc.heap.size wc W := by { rw [hW]; exact below1 _ _ }; have kn : W.heap[wc.heap.size]? = some (.cells #[.int .i64 (q : Int), .int .i64 (jn : Int), .int .u64 (x.I.o : Int), .int .u32 (x.I.n : Int), .int .u32 (x.I.r : Int), .slice aC x.I.c.length cC] 35 (0, 0)) := by { rw [hW]; exact heap_new1 _ _ }; have hS7 := hS6.below hb6; have hB7 := hB6.trans (hb6.mono hB6.size); clear hW z0 z1 z2 z3 z4 z5 fz; refine wpList_append_lies _ rfl _ _ 60 rfl w.heap.size 35 i0 (.agg #[.int .i64 0, .int .i64 0, .int .u64 0, .int .u32 0, .int .u32 0, .slice none 0 0]) 6 56 Try.underlying60 hi hz0 hz1 hz2 rfl (by decide) v L.length (rdgCells L) rfl hS7.sent ⟨wc.heap.size, 0, none⟩ 1 1 [.int .i64 (q : Int), .int .i64 (jn : Int), .int .u64 (x.I.o : Int), .int .u32 (x.I.n : Int), .int .u32 (x.I.r : Int), .slice aC x.I.c.length cC] rfl rfl (lit6 kn) (one6 _ _ _ _ _ _ rfl rfl rfl rfl rfl rfl) (by omega) (by unfold maxLen; omega) (by omega) hB7.size W.heap.size rfl ?_; intro g' cap' w8 hown hg hgv hgl; obtain ⟨hS8, hB8⟩ := HAP.out _ _ _ _ hb6 hown hg hgv; clear hown hg hgv hgl hS7 hB7 kn hb6)
              go_meet
              exact ⟨_, _, _, _, rfl, by (rw [List.length_append]; simp only [List.length_cons, List.length_nil]; omega), hI6, hS8, hB8⟩
          | false =>
            cases h3 : (x.k % 4 == 3) with
            | true =>
                as_aux_lemma =>
                  obtain ⟨ww1, ww2⟩ := sub1 q hq2
                  go_wp2_with fail
                  refine (hear_other (duo g0 g1 q) _ wr (assert_str _)).mono ?_
                  rintro e w4 ⟨rfl, hb4⟩
                  go_wp2_with fail
                  refine (hear_other (duo g0 g1 q) _ w4 assert_nil).mono ?_
                  rintro e w5 ⟨rfl, hb5⟩
                  go_wp2_with fail
                  refine (hear_other (duo g0 g1 q) _ _ (assert_ptr _)).mono ?_
                  rintro e w6 ⟨rfl, hb6⟩
                  have hb7 := below_on (below_on hb4 hb5) (below_on (below1 _ _) hb6)
                  have hS7 := hS.below hb7
                  have hB7 := hB.trans (hb7.mono hB.size)
                  clear hb4 hb5 hb6 hb7
                  go_wp2_with fail
                  go_meet
                  exact ⟨v, X, s, L, rfl, by omega, hI, hS7, hB7⟩
            | false =>
                as_aux_lemma =>
                  obtain ⟨av, cv, rfl, hrd, _⟩ := own_rdgs hS.sent (fun r hr => by have := hS.ins r hr; unfold Has at this; exact this.2)
                  by_cases hL0 : L.length = 0
                  · have dl : decide ((L.length : Int) > 0) = false := decide_eq_false (by omega)
                    have dl2 : decide (0 < (L.length : Int)) = false := decide_eq_false (by omega)
                    clear hrd
                    go_wp2_with fail
                    go_meet
                    exact ⟨_, X, s, L, rfl, by omega, hI, hS, hB⟩
                  · have dl : decide ((L.length : Int) > 0) = true := decide_eq_true (by omega)
                    have dl2 : decide (0 < (L.length : Int)) = true := decide_eq_true (by omega)
                    obtain ⟨j, hj, hjl⟩ := mod_nat x.n L.length (by omega)
                    obtain ⟨r, hr⟩ : ∃ r, L[j]? = some r := ⟨_, List.getElem?_eq_getElem hjl⟩
                    have hrm := List.mem_of_getElem? hr
                    have hin := (hrd.at hr).1
                    obtain ⟨b', hab, r0, r1, r2, r3, r4, r5⟩ := (hrd.at hr).2
                    subst hab
                    have hlen : (L.length : Int) < 1000 := by omega
                    have hpos : (0 : Int) < L.length := by omega
                    have j1 : (j : Int) < L.length := by omega
                    have HJ := Lib.hid hj
                    have hch : (s q).ch = 0 ∨ (s q).ch = 1 := by rw [hI.c q hq2]; omega
                    clear hr hL0 hj
                    go_wp2_with fail
                    refine (pick_any x.n L.length wr hpos hlen).mono ?_
                    rintro e w4 ⟨rfl, rfl⟩
                    rw [HJ.out]
                    go_wp2_with fail
                    refine (own_is r.I r.ch r.cy r.a r.cap wr hin).mono ?_
                    rintro e w5 ⟨aO, cO, rfl, hmO, hiO, hb5⟩
                    have hS5 := hS.below hb5
                    have hB5 := hB.trans (hb5.mono hB.size)
                    clear hb5 r0 r1 r2 r3 r4 r5 hrd hin
                    go_wp2_with fail
                    refine (hear_any (s q) (X q) (duo g0 g1 q) r.ch r.cy r.I aO cO w5 (hS5.side q hq2) hch hiO).mono ?_
                    rintro e w6 ⟨Y, M, rfl, hA6, hgr, _, ho6⟩
                    have hS6 := hS5.step hq2 hA6 hgr ho6
                    have hB6 := Only.below hB5 (hS5.bg q hq2) hB5.size ho6
                    have hI6 := hI.hear hq2 hrm
                    clear hA6 hgr ho6
                    go_wp2_with fail
                    go_meet
                    exact ⟨_, _, _, L, rfl, by omega, hI6, hS6, hB6⟩
        case rest =>
          as_aux_lemma =>
            obtain ⟨v', X', s', L', rfl, hL', hI', hS', hB'⟩ := hcut
            clear hI hS hB hcell c0 c1 c2 c3 c4 c5 c6 du1 du2
            go_wp2_with fail
            refine (merged_any (s' q) (X' q) (duo g0 g1 q) wc (hS'.side q hq2)).mono ?_
            rintro e w4 ⟨aM, cM, rfl, hmM, hiM, hb4⟩
            have hS4 := hS'.below hb4
            have hB4 := hB'.trans (hb4.mono hB'.size)
            have hM4 : Has w4 aM cM (s' q).mIn := by unfold Has; exact ⟨hmM.mono (Nat.zero_le _), hiM⟩
            clear hmM hiM hb4 hS' hB'
            cases hok : (s' q).mOk with
            | false =>
              go_wp2_with fail
              refine name_handed ?_
              intro W5 hW5
              have hb5 : Below w4.heap.size w4 W5 := by rw [hW5]; exact below1 _ _
              have hS5 := hS4.below hb5
              have hB5 := hB4.trans (hb5.mono hB4.size)
              clear hW5
              go_roundg (n - (k + 1))
              case rel => exact ⟨v', k + 1, X', s', L', D, rfl, by omega, by go_num, hL', hI', hS5, hB5⟩
              case measure => omega
            | true =>
              obtain ⟨r0, hr0, r1, hr1, z0, z1, y0, y1, hMq, hp0, hp1⟩ := hI'.merged hq2 hok
              obtain ⟨t, ht⟩ : ∃ t : Nat, (s' q).cy = (t : Int) := ⟨(s' q).cy.toNat, by omega⟩
              rw [ht] at y0 y1 hp0 hp1
              have ht30 : t < 30 := by omega
              have HT := Lib.hid ht
              obtain ⟨i0, hi0⟩ := List.getElem?_of_mem hr0
              obtain ⟨k0, hk0⟩ := List.getElem?_of_mem hr1
              have HR : Hid (r0 ∈ L' ∧ r1 ∈ L' ∧ r0.ch = 0 ∧ r1.ch = 1 ∧ r0.cy = (t : Int) ∧ r1.cy = (t : Int) ∧ (s' q).mIn = r0.I.merge r1.I ∧ L'[i0]? = some r0 ∧ L'[k0]? = some r1) := Lib.hid ⟨hr0, hr1, z0, z1, y0, y1, hMq, hi0, hk0⟩
              clear hr0 hr1 z0 z1 y0 y1 hMq hi0 hk0 hp0 hp1 ht hok
              go_wp2_with fail
              refine name_calls ?_
              intro W5 hW5
              have km : W5.heap[w4.heap.size]? = some (.cells #[.int .u64 ((s' q).mIn.o : Int), .int .u32 ((s' q).mIn.n : Int), .int .u32 ((s' q).mIn.r : Int), .slice aM (s' q).mIn.c.length cM] 33 (0, 0)) := by rw [hW5]; exact heap_new1 _ _
              have hb5 : Below w4.heap.size w4 W5 := by rw [hW5]; exact below1 _ _
              obtain ⟨zm, hzm⟩ : ∃ zm, zm = w4.heap.size := ⟨_, rfl⟩
              rw [← hzm] at km ⊢
              have hz5 : ¬ zm = b5 := by have := hS4.mer; unfold MerAt at this; obtain ⟨C, h1, _⟩ := this; have := blk_lt h1; omega
              have hz6 : ¬ zm = b6 := by have := hS4.dn; unfold DoneAt at this; obtain ⟨C, h1, _⟩ := this; have := blk_lt h1; omega
              have hS5 := hS4.below hb5
              have hB5 := hB4.trans (hb5.mono hB4.size)
              have hM5 := hM4.keep (KeepT.below hb5)
              clear hW5 hzm hb5 hS4 hB4 hM4
              refine (cycle_is (s' q) (X' q) (duo g0 g1 q) W5 (hS5.side q hq2)).mono ?_
              rintro e w6 ⟨rfl, rfl⟩
              rw [HT.out]
              obtain ⟨av, cv, hv, hrd, _⟩ := own_rdgs hS5.sent (fun r hr => by have := hS5.ins r hr; unfold Has at this; exact this.2)
              subst hv
              have d3 : decide ((t : Int) < 0) = false := decide_eq_false (by omega)
              have d4 : decide ((t : Int) ≥ 30) = false := decide_eq_false (by omega)
              have d5 : decide (30 ≤ (t : Int)) = false := decide_eq_false (by omega)
              have c1 : ∀ w', Below W5.heap.size W5 w' → Calls Try.prog 24 #[.slice av L'.length cv, .int .i64 (t : Int), .agg #[.int .u64 ((s' q).mIn.o : Int), .int .u32 ((s' q).mIn.n : Int), .int .u32 ((s' q).mIn.r : Int), .slice aM (s' q).mIn.c.length cM]] w' fun e w'' => e = .returned (.bool true) ∧ Below W5.heap.size W5 w'' := fun w' hw' => by
                obtain ⟨_, _, a1, a2, a3, a4, a5, a6, a7⟩ := HR.out
                have hMI : InAt W5 aM cM (s' q).mIn := by have := hM5; unfold Has at this; exact this.2
                exact (both_is L' av L'.length cv t (s' q).mIn aM cM i0 k0 r0 r1 w' rfl (by omega) (hrd.below hw') (hMI.below hw') a6 a7 a1 a2 a3 a4 a5).mono (fun e w9 ⟨h1, h2⟩ => ⟨h1, below_on hw' h2⟩)
              have c2 : ∀ w', Below W5.heap.size W5 w' → Calls Try.prog 23 #[.pointer (some ⟨duo g0 g1 q, 0, none⟩)] w' fun e w'' => e = .returned (.int .i64 (t : Int)) ∧ Below W5.heap.size W5 w'' :=
                fun w' hw' => (cycle_is (s' q) (X' q) _ w' ((hS5.side q hq2).below hw')).mono (fun e w9 ⟨h1, h2⟩ => ⟨by rw [h1, HT.out], h2 ▸ hw'⟩)
              have HS5 := Lib.hid hS5
              have HM5 := Lib.hid hM5
              clear hS5 hM5 hrd
              go_wp2_with fail
              refine wp_region_calm (by kernel_rfl) (by kernel_rfl) ?_
              repeat
                (with_reducible apply wpQuiet_step
                 intro K hK
                 go_simp
                 first
                   | (refine hK _ ?_; clear hK K)
                   | (apply Exists.intro
                      refine ⟨fun w' hw' => ?_, hK _ ?_⟩
                      · (first
                           | with_reducible exact c1 _ hw'
                           | with_reducible exact c2 _ hw'
                           | (have km' := blk_keep hw' km
                              have m0 := blk_cell km' 0 _ rfl
                              have m1 := blk_cell km' 1 _ rfl
                              have m2 := blk_cell km' 2 _ rfl
                              have m3 := blk_cell km' 3 _ rfl
                              go_simp
                              first | done | exact rfl | exact ⟨rfl, rfl⟩ | exact c1 _ hw' | exact c2 _ hw'))
                      clear hK K))
              refine wpQuiet_nil ?_
              intro w7 hb7
              have km7 := blk_keep hb7 km
              have hS7 := HS5.out.below hb7
              have hB7 := hB5.trans (hb7.mono hB5.size)
              have hM7 := HM5.out.keep (KeepT.below hb7)
              obtain ⟨o, ho⟩ : ∃ o : Nat, o = if q = 1 then 30 + t else t := ⟨_, rfl⟩
              have ho60 : o < 60 := by rw [ho]; split <;> omega
              have hot : o % 30 = t := by rw [ho]; split <;> omega
              clear c1 c2 hb7 hB5 km d3 d4 d5
              go_upto_if 144 with fail
              go_cut [15] from 25 to 177 (fun s15 wx => s15 = .int .i64 (o : Int) ∧ wx = w7)
              case first =>
                rcases (show q = 0 ∨ q = 1 by omega) with hq0 | hq0
                · have ho' : o = t := by rw [ho, if_neg (by omega)]
                  have b1 : ((q : Int) == 1) = false := by rw [hq0]; rfl
                  clear hq0 ho
                  go_wp2_with fail
                  go_meet
                  exact ⟨by rw [ho'], rfl⟩
                · have ho' : o = 30 + t := by rw [ho, if_pos hq0]
                  have b1 : ((q : Int) == 1) = true := by rw [hq0]; rfl
                  clear hq0 ho
                  go_wp2_with fail
                  go_meet
                  exact ⟨by rw [ho']; go_num, rfl⟩
              case rest =>
              obtain ⟨rfl, rfl⟩ := hcut
              have hI9 : Inv s' L' (updD D o (s' q).mIn) := by
                obtain ⟨a1, a2, a3, a4, a5, a6, a7, _⟩ := HR.out
                exact hI'.put a1 a2 a3 a4 (by rw [a5, hot]) (by rw [a6, hot]) a7
              have hmer := hS7.mer
              have hdn := hS7.dn
              unfold MerAt at hmer
              unfold DoneAt at hdn
              obtain ⟨C5', k5, k5s, _⟩ := hmer
              obtain ⟨C6', k6, k6s, k6v⟩ := hdn
              have b56 : ¬ b5 = b6 := ne_type k5 k6 (by decide)
              have b65 : ¬ b6 = b5 := fun e => b56 e.symm
              have z5 : ¬ b5 = zm := fun e => hz5 e.symm
              have z6 : ¬ b6 = zm := fun e => hz6 e.symm
              have p6 := blk_cell k6 o _ (k6v o ho60)
              have f6 := blk_free k6
              obtain ⟨y0, hy0⟩ : ∃ v, C5'[o * 4]? = some v := ⟨_, Array.getElem?_eq_getElem (show o * 4 < C5'.size by omega)⟩
              have p50 := blk_cell k5 (o * 4) y0 hy0
              obtain ⟨y1, hy1⟩ : ∃ v, C5'[o * 4 + 1]? = some v := ⟨_, Array.getElem?_eq_getElem (show o * 4 + 1 < C5'.size by omega)⟩
              have p51 := blk_cell k5 (o * 4 + 1) y1 hy1
              obtain ⟨y2, hy2⟩ : ∃ v, C5'[o * 4 + 2]? = some v := ⟨_, Array.getElem?_eq_getElem (show o * 4 + 2 < C5'.size by omega)⟩
              have p52 := blk_cell k5 (o * 4 + 2) y2 hy2
              obtain ⟨y3, hy3⟩ : ∃ v, C5'[o * 4 + 3]? = some v := ⟨_, Array.getElem?_eq_getElem (show o * 4 + 3 < C5'.size by omega)⟩
              have p53 := blk_cell k5 (o * 4 + 3) y3 hy3
              have f5 := blk_free k5
              have m0 := blk_cell km7 0 _ rfl
              have m1 := blk_cell km7 1 _ rfl
              have m2 := blk_cell km7 2 _ rfl
              have m3 := blk_cell km7 3 _ rfl
              have o1 : (o : Int) < 60 := by omega
              have hS9 := hS7.put ho60 hM7
              have HS9 := Lib.hid hS9
              have hle5 := hS7.le5
              have hle6 := hS7.le6
              clear hS9 hy0 hy1 hy2 hy3 k5 k6 k5s k6s k6v km7 hS7 hM7 ho
              go_wp2_with fail
              refine name_world ?_
              intro W9 hW9
              have hS9 : SM w.heap.size W9 (duo g0 g1) X' s' L' (updD D o (s' q).mIn) b3 b5 b6 (.slice av L'.length cv) := by rw [hW9]; exact HS9.out
              have hB9 : Below w.heap.size w W9 := by
                rw [hW9]
                exact ((((hB7.setCell (p := ⟨b6, o, none⟩) hle6 _).setCell (p := ⟨b5, o * 4, none⟩) hle5 _).setCell (p := ⟨b5, o * 4 + 1, none⟩) hle5 _).setCell (p := ⟨b5, o * 4 + 2, none⟩) hle5 _).setCell (p := ⟨b5, o * 4 + 3, none⟩) hle5 _
              clear hW9 HS9 p6 f6 p50 p51 p52 p53 f5 m0 m1 m2 m3 hle5 hle6 hB7
              obtain ⟨D', hD'⟩ : ∃ D', D' = updD D o (s' q).mIn := ⟨_, rfl⟩
              rw [← hD'] at hI9 hS9
              clear hD'
              have HMER := Lib.hid hS9.mer
              have hmer := hS9.mer
              have hdn := hS9.dn
              unfold MerAt at hmer
              unfold DoneAt at hdn
              obtain ⟨C5', k5, k5s, k5v⟩ := hmer
              obtain ⟨C6', k6, k6s, k6v⟩ := hdn
              have p1 := blk_cell k6 t _ (k6v t (by omega))
              have p2 := blk_cell k6 (30 + t) _ (k6v (30 + t) (by omega))
              obtain ⟨t1, t2, t3, t4, t5, t6⟩ := nat30 t ht30
              have HFIN : Hid (∀ w', Below W9.heap.size W9 w' → SM w.heap.size w' (duo g0 g1) X' s' L' D' b3 b5 b6 (.slice av L'.length cv) ∧ Below w.heap.size w w') := Lib.hid (fun w' hw' => ⟨hS9.below hw', hB9.trans (hw'.mono hB9.size)⟩)
              clear k6v k6s k5s
              cases hd1 : D' t with
              | none =>
                rw [hd1] at p1
                clear k5v k5 k6 hS9 hB9
                go_quiet (fail)
                go_wp2_with fail
                go_roundg (n - (k + 1))
                case rel => exact ⟨_, k + 1, X', s', L', D', rfl, by omega, by go_num, hL', hI9, (HFIN.out _ (below_drewN (Below.refl _ _) _)).1, (HFIN.out _ (below_drewN (Below.refl _ _) _)).2⟩
                case measure => omega
              | some M1 =>
                rw [hd1] at p1
                cases hd2 : D' (30 + t) with
                | none =>
                  rw [hd2] at p2
                  clear k5v k5 k6 hS9 hB9
                  go_quiet (fail)
                  go_wp2_with fail
                  go_roundg (n - (k + 1))
                  case rel => exact ⟨_, k + 1, X', s', L', D', rfl, by omega, by go_num, hL', hI9, (HFIN.out _ (below_drewN (Below.refl _ _) _)).1, (HFIN.out _ (below_drewN (Below.refl _ _) _)).2⟩
                  case measure => omega
                | some M2 =>
                  rw [hd2] at p2
                  obtain ⟨a1, cap1, a2, cap2, c1, cc⟩ := two_same HMER.out ht30 hd1 hd2 (hI9.agree ht30 hd1 hd2)
                  have HP1 := Lib.hid (fun w' (hw' : Below W9.heap.size W9 w') => cell_later hw' p1)
                  have HP2 := Lib.hid (fun w' (hw' : Below W9.heap.size W9 w') => cell_later hw' p2)
                  clear k5v k5 k6 hS9 hB9 hd1 hd2 p1 p2
                  refine wp_region_calm (by kernel_rfl) (by kernel_rfl) ?_
                  repeat
                    (with_reducible apply wpQuiet_step
                     intro K hK
                     go_simp
                     first
                       | (refine hK _ ?_; clear hK K)
                       | (apply Exists.intro
                          refine ⟨fun w' hw' => ?_, hK _ ?_⟩
                          · (first
                               | with_reducible exact c1 _ hw'
                               | (obtain ⟨q3, q4, q5, q6, q7, q8, q9, q10⟩ := cc _ hw'
                                  have q1 := HP1.out _ hw'
                                  have q2 := HP2.out _ hw'
                                  go_simp
                                  first | done | exact rfl | exact ⟨rfl, rfl⟩ | exact c1 _ hw'))
                          clear hK K))
                  refine wpQuiet_nil ?_
                  intro w10 hb10
                  clear c1 cc
                  go_wp2_with fail
                  go_roundg (n - (k + 1))
                  case rel => exact ⟨_, k + 1, X', s', L', D', rfl, by omega, by go_num, hL', hI9, (HFIN.out _ hb10).1, (HFIN.out _ hb10).2⟩
                  case measure => omega
      · have du1 : decide ((x.I.c.length : Int) > 20) = true := decide_eq_true (by omega)
        have du2 : decide (20 < (x.I.c.length : Int)) = true := decide_eq_true (by omega)
        clear h20 hlong
        go_wp2_with fail
        refine (works_any _).mono ?_
        rintro e w3 ⟨rfl, hb3⟩
        go_wp2_with fail
        try rw [Exit.noGoto_ret]
        go_ret
        exact ⟨rfl, hB.trans (hb3.mono hB.size)⟩
    · obtain rfl : k = n := by omega
      go_wp2_with fail
      refine (works_any _).mono ?_
      rintro e w3 ⟨rfl, hb3⟩
      go_wp2_with fail
      go_ret
      exact ⟨rfl, hB.trans (hb3.mono hB.size)⟩
end Go.Proofs.Ytbbacmlcimgjbaa
