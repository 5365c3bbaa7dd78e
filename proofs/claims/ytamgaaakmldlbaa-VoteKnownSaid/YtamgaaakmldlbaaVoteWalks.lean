/-
  Walks of package vote.
-/
import Derived.Test.YtamgaaakmldlbaaVote
namespace Go.Proofs.Ytamgaaakmldlbaa
open Go.RowKit

theorem new_any (w : World) : Calls Try.prog 9 #[] w fun e w' => ∃ g, e = .returned (.pointer (some ⟨g, 0, none⟩)) ∧ w.heap.size ≤ g ∧ VoteAt w' g ⟨none, none, none, 0, false⟩ ∧ Below w.heap.size w w' := by
  go_enter Try.func9, Try.ntmps9
  go_wp2
  go_ret
  exact ⟨_, rfl, Nat.le_refl _, ⟨_, _, _, alloc1 w _ (Below.refl _ _), rfl, rfl, rfl⟩, below1 _ _⟩

theorem set5 {w : World} {g : Nat} {a b c d e : Value} {t : TypeId} {fr : Nat × Nat} (h : w.heap[g]? = some (.cells #[a, b, c, d, e] t fr)) (v0 v1 v2 v3 v4 : Value) :
    (((((w.setCell ⟨g, 0, none⟩ v0).setCell ⟨g, 1, none⟩ v1).setCell ⟨g, 2, none⟩ v2).setCell ⟨g, 3, none⟩ v3).setCell ⟨g, 4, none⟩ v4).heap[g]? = some (.cells #[v0, v1, v2, v3, v4] t fr) ∧
    Only g w (((((w.setCell ⟨g, 0, none⟩ v0).setCell ⟨g, 1, none⟩ v1).setCell ⟨g, 2, none⟩ v2).setCell ⟨g, 3, none⟩ v3).setCell ⟨g, 4, none⟩ v4) :=
  ⟨blk_set (blk_set (blk_set (blk_set (blk_set h 0 v0) 1 v1) 2 v2) 3 v3) 4 v4, (((((Only.refl g w).setCell rfl v0).setCell rfl v1).setCell rfl v2).setCell rfl v3).setCell rfl v4⟩
set_option maxHeartbeats 400000 in
theorem stop_any (s : VSt) (g : Nat) (w : World) (h : VoteAt w g s) : Calls Try.prog 19 #[.pointer (some ⟨g, 0, none⟩)] w fun e w' => e = .returned (.tuple #[]) ∧ VoteAt w' g s.stop ∧ Only g w w' := by
  obtain ⟨v0, v1, v2, h0, h1, h2, h3⟩ := h
  have e0 := blk_cell h0 0 _ rfl
  have e1 := blk_cell h0 1 _ rfl
  have e2 := blk_cell h0 2 _ rfl
  have e3 := blk_cell h0 3 _ rfl
  have e4 := blk_cell h0 4 _ rfl
  have f0 := blk_free h0
  clear h1 h2 h3
  go_enter Try.func19, Try.ntmps19
  go_wp2
  go_end0
  obtain ⟨k, ho⟩ := set5 h0 (.pointer none) (.pointer none) (.pointer none) (.int .i64 s.last) (.bool true)
  exact ⟨rfl, ⟨_, _, _, k, rfl, rfl, rfl⟩, ho⟩
set_option maxHeartbeats 400000 in
theorem reset_any (s : VSt) (g : Nat) (w : World) (h : VoteAt w g s) : Calls Try.prog 18 #[.pointer (some ⟨g, 0, none⟩)] w fun e w' => e = .returned (.tuple #[]) ∧ VoteAt w' g s.reset ∧ Only g w w' := by
  obtain ⟨v0, v1, v2, h0, h1, h2, h3⟩ := h
  have e0 := blk_cell h0 0 _ rfl
  have e1 := blk_cell h0 1 _ rfl
  have e2 := blk_cell h0 2 _ rfl
  have e3 := blk_cell h0 3 _ rfl
  have e4 := blk_cell h0 4 _ rfl
  have f0 := blk_free h0
  clear h1 h2 h3
  go_enter Try.func18, Try.ntmps18
  go_wp2
  go_end0
  obtain ⟨k, ho⟩ := set5 h0 (.pointer none) (.pointer none) (.pointer none) (.int .i64 s.last) (.bool false)
  exact ⟨rfl, ⟨_, _, _, k, rfl, rfl, rfl⟩, ho⟩

set_option maxHeartbeats 400000 in
theorem stopped_any (s : VSt) (g : Nat) (w : World) (h : VoteAt w g s) : Calls Try.prog 13 #[.pointer (some ⟨g, 0, none⟩)] w fun e w' => e = .returned (.bool s.stopped) ∧ w = w' := by
  obtain ⟨v0, v1, v2, h0, h1, h2, h3⟩ := h
  have e4 := blk_cell h0 4 _ rfl
  clear h0 h1 h2 h3
  go_enter Try.func13, Try.ntmps13
  go_wp2
  go_ret
  exact ⟨rfl, rfl⟩
set_option maxHeartbeats 400000 in
theorem last_any (s : VSt) (g : Nat) (w : World) (h : VoteAt w g s) : Calls Try.prog 16 #[.pointer (some ⟨g, 0, none⟩)] w fun e w' => e = .returned (.int .i64 s.last) ∧ w = w' := by
  obtain ⟨v0, v1, v2, h0, h1, h2, h3⟩ := h
  have e4 := blk_cell h0 3 _ rfl
  clear h0 h1 h2 h3
  go_enter Try.func16, Try.ntmps16
  go_wp2
  go_ret
  exact ⟨rfl, rfl⟩
/-- a frame, or that of noughts -/
def zf : Frm := ⟨0, 0, 0, 0⟩
def VSt.frm (s : VSt) : Frm := s.shown.getD zf
set_option maxHeartbeats 400000 in
theorem shown_any (s : VSt) (g : Nat) (w : World) (h : VoteAt w g s) : Calls Try.prog 12 #[.pointer (some ⟨g, 0, none⟩)] w
    fun e w' => e = .returned (.tuple #[.agg #[.int .i64 s.frm.c, .int .i64 s.frm.e, .int .u64 s.frm.p, .int .u32 s.frm.q], .bool s.shown.isSome]) ∧ Below w.heap.size w w' := by
  obtain ⟨v0, v1, v2, h0, h1, h2, h3⟩ := h
  have e2 := blk_cell h0 2 _ rfl
  have hl := blk_lt h0
  clear h1 h2
  cases hs : s.shown with
  | none =>
    rw [hs] at h3
    obtain rfl : v2 = .pointer none := h3
    have HF : Hid (s.frm = zf) := Lib.hid (by unfold VSt.frm; rw [hs]; rfl)
    clear hs
    go_enter Try.func12, Try.ntmps12
    go_wp2
    refine bodyPost_ret (v := .tuple #[.agg #[.int .i64 0, .int .i64 0, .int .u64 0, .int .u32 0], .bool false]) (by simp [results, Try.results12, go_sem]) rfl ⟨?_, below1 _ _⟩
    rw [HF.out]; rfl
  | some f =>
    rw [hs] at h3
    obtain ⟨b, fr, rfl, hb⟩ := h3
    have HF : Hid (s.frm = f) := Lib.hid (by unfold VSt.frm; rw [hs]; rfl)
    have b0 := blk_cell hb 0 _ rfl
    have b1 := blk_cell hb 1 _ rfl
    have b2 := blk_cell hb 2 _ rfl
    have b3 := blk_cell hb 3 _ rfl
    have hbl := blk_lt hb
    clear hs
    go_enter Try.func12, Try.ntmps12
    go_wp2
    refine bodyPost_ret (v := .tuple #[.agg #[.int .i64 f.c, .int .i64 f.e, .int .u64 f.p, .int .u32 f.q], .bool true]) (by simp [results, Try.results12, go_sem]) rfl ⟨?_, below1 _ _⟩
    rw [HF.out]; rfl

theorem parr_info : (Try.prog.info? 53).map (fun i => (i.zero, i.size, i.bytes)) = some (some (.pointer none), 1, 8) := by kernel_rfl
theorem parr_cells : Try.prog.cellsOf 53 = 1 := by kernel_rfl
theorem parr_guard : Try.prog.eqGuardType Try.prog.depth 54 = false := by kernel_rfl
theorem ptr_eq (d : Nat) (p : Option Addr) (w : World) : (Op.equalIn (d + 1) 53 (.pointer p) (.pointer none)).run Try.prog w = .ok (!p.isSome) w := by
  cases p <;> simp [Op.equalIn, run_underlying Try.underlying53]
theorem neq_parr (p0 p1 : Option Addr) (w : World) :
    (binOp .neq 54 (.agg #[.pointer p0, .pointer p1]) (.agg #[.pointer none, .pointer none])).run Try.prog w = .ok (.bool (p0.isSome || p1.isSome)) w := by
  obtain ⟨i0, hi, _⟩ := info_parts parr_info
  rw [run_neq_struct, run_equalIn_array w 9999 _ _ Try.underlying54 hi, parr_cells]
  simp only [List.range, List.range.loop]
  cases p0 <;> cases p1
  all_goals simp [Op.eqItems, part, go_sem, ptr_eq 9998]
theorem PtrAt.ptr {w : World} {x : Option Frm} {v : Value} (h : PtrAt w x v) : ∃ p, v = .pointer p ∧ p.isSome = x.isSome := by
  cases x with
  | none => exact ⟨none, h, rfl⟩
  | some f => obtain ⟨b, fr, h1, h2⟩ := h; exact ⟨_, h1, rfl⟩
theorem fin_stop (s : VSt) (h : (s.p0.isSome || s.p1.isSome) = true) : s.fin = (s.stop, 220) := by
  unfold VSt.fin; rw [if_pos (by simpa using h)]
theorem fin_go (s : VSt) (h : (s.p0.isSome || s.p1.isSome) = false) : s.fin = (s, if s.stopped then 220 else 0) := by
  unfold VSt.fin; rw [if_neg (by simpa using h)]; split <;> simp_all
set_option maxHeartbeats 400000 in
theorem end_any (s : VSt) (g : Nat) (w : World) (h : VoteAt w g s) : Calls Try.prog 17 #[.pointer (some ⟨g, 0, none⟩)] w fun e w' => e = .returned (.int .i64 s.fin.2) ∧ VoteAt w' g s.fin.1 ∧ Only g w w' := by
  have hV := h
  obtain ⟨v0, v1, v2, h0, h1, h2, h3⟩ := h
  obtain ⟨p0, rfl, q0⟩ := h1.ptr
  obtain ⟨p1, rfl, q1⟩ := h2.ptr
  have hne := neq_parr p0 p1
  have hgd := parr_guard
  obtain ⟨B, hB⟩ : ∃ B, (p0.isSome || p1.isSome) = B := ⟨_, rfl⟩
  have HB : Hid ((s.p0.isSome || s.p1.isSome) = B) := Lib.hid (by rw [← hB, q0, q1])
  simp only [hB] at hne
  have e0 := blk_cell h0 0 _ rfl
  have e1 := blk_cell h0 1 _ rfl
  have HV := Lib.hid hV
  clear h1 h2 h3 q0 q1 hB hV
  cases B with
  | true =>
    have HF := Lib.hid (fin_stop s HB.out)
    go_enter Try.func17, Try.ntmps17
    go_wp2_with fail
    refine (stop_any s g _ HV.out).mono ?_
    rintro e w1 ⟨rfl, hv1, ho⟩
    have hv := hv1
    obtain ⟨u0, u1, u2, k0, _⟩ := hv1
    have e4 := blk_cell k0 4 _ rfl
    clear k0 e0 e1
    go_wp2_with fail
    go_ret
    rw [HF.out]
    exact ⟨rfl, hv, ho⟩
  | false =>
    have HF := Lib.hid (fin_go s HB.out)
    have e4 : w.cell? ⟨g, 4, none⟩ = some (.bool s.stopped) := blk_cell h0 4 _ rfl
    obtain ⟨T, hT⟩ : ∃ T, s.stopped = T := ⟨_, rfl⟩
    rw [hT] at e4
    have HT := Lib.hid hT
    clear hT h0
    cases T
    all_goals
      go_enter Try.func17, Try.ntmps17
      go_wp2_with fail
      go_ret
      rw [HF.out, HT.out]
      exact ⟨rfl, HV.out, Only.refl _ _⟩
end Go.Proofs.Ytamgaaakmldlbaa
