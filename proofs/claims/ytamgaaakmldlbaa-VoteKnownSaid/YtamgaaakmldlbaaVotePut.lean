/-
  Walks of package vote: Put.
-/
import Derived.Test.YtamgaaakmldlbaaVoteWalks
namespace Go.Proofs.Ytamgaaakmldlbaa
open Go.RowKit

set_option maxHeartbeats 4000000 in
theorem put_zero (s : VSt) (f : Frm) (g : Nat) (w : World) (h : VoteAt w g s) :
    Calls Try.prog 11 #[.pointer (some ⟨g, 0, none⟩), .int .i64 0, .agg #[.int .i64 f.c, .int .i64 f.e, .int .u64 f.p, .int .u32 f.q]] w
      fun e w' => e = .returned (.int .i64 (s.put 0 f).2) ∧ VoteAt w' g (s.put 0 f).1 ∧ Only g w w' := by
  have hV := h
  obtain ⟨v0, v1, v2, h0, h1, h2, h3⟩ := h
  have e4 : w.cell? ⟨g, 4, none⟩ = some (.bool s.stopped) := blk_cell h0 4 _ rfl
  have hgl := blk_lt h0
  have HV := Lib.hid hV
  clear hV
  obtain ⟨T, hT⟩ : ∃ T, s.stopped = T := ⟨_, rfl⟩
  cases T with
  | true =>
    rw [hT] at e4
    have HP : Hid (s.put 0 f = (s, 220)) := Lib.hid (by simp [VSt.put, hT])
    clear hT h0 h1 h2 h3
    go_enter Try.func11, Try.ntmps11
    go_wp2_with fail
    go_ret
    rw [HP.out]
    exact ⟨rfl, HV.out.below (below1 _ _), Only.of_below (below1 _ _)⟩
  | false =>
    rw [hT] at e4
    obtain ⟨q0, rfl, i0⟩ := h1.ptr
    obtain ⟨q1, rfl, i1⟩ := h2.ptr
    have e0 := blk_cell h0 0 _ rfl
    have e1 := blk_cell h0 1 _ rfl
    have e2 := blk_cell h0 2 _ rfl
    have e3 : w.cell? ⟨g, 3, none⟩ = some (.int .i64 s.last) := blk_cell h0 3 _ rfl
    have f0 := blk_free h0
    have H0 := Lib.hid h0
    have H1 := Lib.hid h1
    have H2 := Lib.hid h2
    have H3 := Lib.hid h3
    clear h0 h1 h2 h3
    cases ho : s.p0 with
    | some o =>
      have HP : Hid (s.put 0 f = (s.stop, 220)) := Lib.hid (by simp [VSt.put, hT, VSt.own, ho])
      rw [ho] at i0
      cases q0 with
      | none => cases i0
      | some x =>
        clear hT i0 i1 ho
        go_enter Try.func11, Try.ntmps11
        go_wp2_with fail
        go_quiet (fail)
        go_wp2_with fail
        refine (stop_any s g _ (HV.out.below (below_drewN (below1 _ _) _))).mono ?_
        rintro e w1 ⟨rfl, hv, hon⟩
        go_wp2_with fail
        go_ret
        rw [HP.out]
        exact ⟨rfl, hv, (Only.of_below (below_drewN (below1 _ _) _)).trans hon⟩
    | none =>
      rw [ho] at i0
      cases q0 with
      | some x => cases i0
      | none =>
      clear i0
      by_cases hc : f.c ≤ s.last
      · have HP : Hid (s.put 0 f = (s.stop, 220)) := Lib.hid (by simp [VSt.put, hT, VSt.own, ho, hc])
        clear hT ho i1
        go_enter Try.func11, Try.ntmps11
        go_wp2_with fail
        go_quiet (fail)
        go_wp2_with fail
        go_quiet (fail)
        go_wp2_with fail
        refine (stop_any s g _ (HV.out.below (below_drewN (below1 _ _) _))).mono ?_
        rintro e w1 ⟨rfl, hv, hon⟩
        go_wp2_with fail
        go_ret
        rw [HP.out]
        exact ⟨rfl, hv, (Only.of_below (below_drewN (below1 _ _) _)).trans hon⟩
      · cases hx : s.p1 with
        | none =>
          have HP : Hid (s.put 0 f = (⟨some f, s.p1, s.shown, s.last, s.stopped⟩, 0)) := Lib.hid (by simp [VSt.put, hT, VSt.own, VSt.oth, VSt.lay, ho, hc, hx])
          rw [hx] at i1
          cases q1 with
          | some x => cases i1
          | none =>
          have HO := Lib.hid ho
          have HT := Lib.hid hT
          have HX := Lib.hid hx
          clear hT ho i1 hx
          go_enter Try.func11, Try.ntmps11
          go_wp2_with fail
          go_quiet (fail)
          go_wp2_with fail
          go_quiet (fail)
          go_wp2_with fail
          go_quiet (fail)
          go_wp2_with fail
          go_ret
          rw [HP.out]
          have hbn := below1 w (Obj.cells #[.int .i64 f.c, .int .i64 f.e, .int .u64 f.p, .int .u32 f.q] 27)
          have hz : (w.alloc (Obj.cells #[.int .i64 f.c, .int .i64 f.e, .int .u64 f.p, .int .u32 f.q] 27)).heap[w.heap.size]? = some (Obj.cells #[.int .i64 f.c, .int .i64 f.e, .int .u64 f.p, .int .u32 f.q] 27) := alloc1 w _ (Below.refl _ _)
          refine ⟨rfl, ⟨_, _, _, blk_set (blk_keep (below1 _ _) H0.out) 0 _, ?_, ?_, ?_⟩, Only.setCell (p := ⟨g, 0, none⟩) (Only.of_below (below_drewN (below1 _ _) _)) rfl _⟩
          all_goals first
            | exact ⟨_, _, rfl, blk_set_other hz _ _ (by omega)⟩
            | exact (H1.out.keep fun _ _ _ k => blk_keep hbn k).keep fun b F fr k => blk_set_other k _ _ (by rintro rfl; rw [blk_keep hbn H0.out] at k; cases k)
            | exact (H2.out.keep fun _ _ _ k => blk_keep hbn k).keep fun b F fr k => blk_set_other k _ _ (by rintro rfl; rw [blk_keep hbn H0.out] at k; cases k)
            | exact (H3.out.keep fun _ _ _ k => blk_keep hbn k).keep fun b F fr k => blk_set_other k _ _ (by rintro rfl; rw [blk_keep hbn H0.out] at k; cases k)
        | some o =>
          have hp := H2.out
          rw [hx] at hp
          obtain ⟨b, fr, hq, hb⟩ := hp
          cases hq
          have b0 := blk_cell hb 0 _ rfl
          have b1 := blk_cell hb 1 _ rfl
          have b2 := blk_cell hb 2 _ rfl
          have b3 := blk_cell hb 3 _ rfl
          have hbl := blk_lt hb
          have hgd := frm_guard
          have hne := neq_frm o f
          by_cases hof : o = f
          · have HP : Hid (s.put 0 f = (⟨none, none, some f, f.c, false⟩, 0)) := Lib.hid (by simp [VSt.put, hT, VSt.own, VSt.oth, ho, hc, hx, hof])
            rw [decide_eq_true hof] at hne
            clear hT ho i1 hx hof hb
            go_enter Try.func11, Try.ntmps11
            go_wp2_with fail
            go_quiet (fail)
            go_wp2_with fail
            go_quiet (fail)
            go_wp2_with fail
            go_quiet (fail)
            go_wp2_with fail
            go_ret
            rw [HP.out]
            have hz : (w.alloc (Obj.cells #[.int .i64 f.c, .int .i64 f.e, .int .u64 f.p, .int .u32 f.q] 27)).heap[w.heap.size]? = some (Obj.cells #[.int .i64 f.c, .int .i64 f.e, .int .u64 f.p, .int .u32 f.q] 27) := alloc1 w _ (Below.refl _ _)
            have key := fun n => set5 (blk_keep (below_drewN (below1 w (Obj.cells #[.int .i64 f.c, .int .i64 f.e, .int .u64 f.p, .int .u32 f.q] 27)) n) H0.out) (.pointer none) (.pointer none) (.pointer (some ⟨w.heap.size, 0, none⟩)) (.int .i64 f.c) (.bool false)
            refine ⟨rfl, ⟨_, _, _, (key _).1, rfl, rfl, ⟨_, _, rfl, (key _).2.keep (by omega) hz⟩⟩, (Only.of_below (below_drewN (below1 _ _) _)).trans (key _).2⟩
          · have HP : Hid (s.put 0 f = (s.stop, 220)) := Lib.hid (by simp [VSt.put, hT, VSt.own, VSt.oth, ho, hc, hx, hof])
            rw [decide_eq_false hof] at hne
            clear hT ho i1 hx hof hb
            go_enter Try.func11, Try.ntmps11
            go_wp2_with fail
            go_quiet (fail)
            go_wp2_with fail
            go_quiet (fail)
            go_wp2_with fail
            go_quiet (fail)
            go_wp2_with fail
            refine (stop_any s g _ (HV.out.below (below_drewN (below1 _ _) _))).mono ?_
            rintro e w1 ⟨rfl, hv, hon⟩
            go_wp2_with fail
            go_ret
            rw [HP.out]
            exact ⟨rfl, hv, (Only.of_below (below_drewN (below1 _ _) _)).trans hon⟩

set_option maxHeartbeats 4000000 in
theorem put_one (s : VSt) (f : Frm) (g : Nat) (w : World) (h : VoteAt w g s) :
    Calls Try.prog 11 #[.pointer (some ⟨g, 0, none⟩), .int .i64 1, .agg #[.int .i64 f.c, .int .i64 f.e, .int .u64 f.p, .int .u32 f.q]] w
      fun e w' => e = .returned (.int .i64 (s.put 1 f).2) ∧ VoteAt w' g (s.put 1 f).1 ∧ Only g w w' := by
  have hV := h
  obtain ⟨v0, v1, v2, h0, h1, h2, h3⟩ := h
  have e4 : w.cell? ⟨g, 4, none⟩ = some (.bool s.stopped) := blk_cell h0 4 _ rfl
  have hgl := blk_lt h0
  have HV := Lib.hid hV
  clear hV
  obtain ⟨T, hT⟩ : ∃ T, s.stopped = T := ⟨_, rfl⟩
  cases T with
  | true =>
    rw [hT] at e4
    have HP : Hid (s.put 1 f = (s, 220)) := Lib.hid (by simp [VSt.put, hT])
    clear hT h0 h1 h2 h3
    go_enter Try.func11, Try.ntmps11
    go_wp2_with fail
    go_ret
    rw [HP.out]
    exact ⟨rfl, HV.out.below (below1 _ _), Only.of_below (below1 _ _)⟩
  | false =>
    rw [hT] at e4
    obtain ⟨q0, rfl, i0⟩ := h1.ptr
    obtain ⟨q1, rfl, i1⟩ := h2.ptr
    have e0 := blk_cell h0 0 _ rfl
    have e1 := blk_cell h0 1 _ rfl
    have e2 := blk_cell h0 2 _ rfl
    have e3 : w.cell? ⟨g, 3, none⟩ = some (.int .i64 s.last) := blk_cell h0 3 _ rfl
    have f0 := blk_free h0
    have H0 := Lib.hid h0
    have H1 := Lib.hid h1
    have H2 := Lib.hid h2
    have H3 := Lib.hid h3
    clear h0 h1 h2 h3
    cases ho : s.p1 with
    | some o =>
      have HP : Hid (s.put 1 f = (s.stop, 220)) := Lib.hid (by simp [VSt.put, hT, VSt.own, ho])
      rw [ho] at i1
      cases q1 with
      | none => cases i1
      | some x =>
        clear hT i0 i1 ho
        go_enter Try.func11, Try.ntmps11
        go_wp2_with fail
        go_quiet (fail)
        go_wp2_with fail
        refine (stop_any s g _ (HV.out.below (below_drewN (below1 _ _) _))).mono ?_
        rintro e w1 ⟨rfl, hv, hon⟩
        go_wp2_with fail
        go_ret
        rw [HP.out]
        exact ⟨rfl, hv, (Only.of_below (below_drewN (below1 _ _) _)).trans hon⟩
    | none =>
      rw [ho] at i1
      cases q1 with
      | some x => cases i1
      | none =>
      clear i1
      by_cases hc : f.c ≤ s.last
      · have HP : Hid (s.put 1 f = (s.stop, 220)) := Lib.hid (by simp [VSt.put, hT, VSt.own, ho, hc])
        clear hT ho i0
        go_enter Try.func11, Try.ntmps11
        go_wp2_with fail
        go_quiet (fail)
        go_wp2_with fail
        go_quiet (fail)
        go_wp2_with fail
        refine (stop_any s g _ (HV.out.below (below_drewN (below1 _ _) _))).mono ?_
        rintro e w1 ⟨rfl, hv, hon⟩
        go_wp2_with fail
        go_ret
        rw [HP.out]
        exact ⟨rfl, hv, (Only.of_below (below_drewN (below1 _ _) _)).trans hon⟩
      · cases hx : s.p0 with
        | none =>
          have HP : Hid (s.put 1 f = (⟨s.p0, some f, s.shown, s.last, s.stopped⟩, 0)) := Lib.hid (by simp [VSt.put, hT, VSt.own, VSt.oth, VSt.lay, ho, hc, hx])
          rw [hx] at i0
          cases q0 with
          | some x => cases i0
          | none =>
          have HO := Lib.hid ho
          have HT := Lib.hid hT
          have HX := Lib.hid hx
          clear hT ho i0 hx
          go_enter Try.func11, Try.ntmps11
          go_wp2_with fail
          go_quiet (fail)
          go_wp2_with fail
          go_quiet (fail)
          go_wp2_with fail
          go_quiet (fail)
          go_wp2_with fail
          go_ret
          rw [HP.out]
          have hbn := below1 w (Obj.cells #[.int .i64 f.c, .int .i64 f.e, .int .u64 f.p, .int .u32 f.q] 27)
          have hz : (w.alloc (Obj.cells #[.int .i64 f.c, .int .i64 f.e, .int .u64 f.p, .int .u32 f.q] 27)).heap[w.heap.size]? = some (Obj.cells #[.int .i64 f.c, .int .i64 f.e, .int .u64 f.p, .int .u32 f.q] 27) := alloc1 w _ (Below.refl _ _)
          refine ⟨rfl, ⟨_, _, _, blk_set (blk_keep (below1 _ _) H0.out) 1 _, ?_, ?_, ?_⟩, Only.setCell (p := ⟨g, 1, none⟩) (Only.of_below (below_drewN (below1 _ _) _)) rfl _⟩
          all_goals first
            | exact ⟨_, _, rfl, blk_set_other hz _ _ (by omega)⟩
            | exact (H1.out.keep fun _ _ _ k => blk_keep hbn k).keep fun b F fr k => blk_set_other k _ _ (by rintro rfl; rw [blk_keep hbn H0.out] at k; cases k)
            | exact (H2.out.keep fun _ _ _ k => blk_keep hbn k).keep fun b F fr k => blk_set_other k _ _ (by rintro rfl; rw [blk_keep hbn H0.out] at k; cases k)
            | exact (H3.out.keep fun _ _ _ k => blk_keep hbn k).keep fun b F fr k => blk_set_other k _ _ (by rintro rfl; rw [blk_keep hbn H0.out] at k; cases k)
        | some o =>
          have hp := H1.out
          rw [hx] at hp
          obtain ⟨b, fr, hq, hb⟩ := hp
          cases hq
          have b0 := blk_cell hb 0 _ rfl
          have b1 := blk_cell hb 1 _ rfl
          have b2 := blk_cell hb 2 _ rfl
          have b3 := blk_cell hb 3 _ rfl
          have hbl := blk_lt hb
          have hgd := frm_guard
          have hne := neq_frm o f
          by_cases hof : o = f
          · have HP : Hid (s.put 1 f = (⟨none, none, some f, f.c, false⟩, 0)) := Lib.hid (by simp [VSt.put, hT, VSt.own, VSt.oth, ho, hc, hx, hof])
            rw [decide_eq_true hof] at hne
            clear hT ho i0 hx hof hb
            go_enter Try.func11, Try.ntmps11
            go_wp2_with fail
            go_quiet (fail)
            go_wp2_with fail
            go_quiet (fail)
            go_wp2_with fail
            go_quiet (fail)
            go_wp2_with fail
            go_ret
            rw [HP.out]
            have hz : (w.alloc (Obj.cells #[.int .i64 f.c, .int .i64 f.e, .int .u64 f.p, .int .u32 f.q] 27)).heap[w.heap.size]? = some (Obj.cells #[.int .i64 f.c, .int .i64 f.e, .int .u64 f.p, .int .u32 f.q] 27) := alloc1 w _ (Below.refl _ _)
            have key := fun n => set5 (blk_keep (below_drewN (below1 w (Obj.cells #[.int .i64 f.c, .int .i64 f.e, .int .u64 f.p, .int .u32 f.q] 27)) n) H0.out) (.pointer none) (.pointer none) (.pointer (some ⟨w.heap.size, 0, none⟩)) (.int .i64 f.c) (.bool false)
            refine ⟨rfl, ⟨_, _, _, (key _).1, rfl, rfl, ⟨_, _, rfl, (key _).2.keep (by omega) hz⟩⟩, (Only.of_below (below_drewN (below1 _ _) _)).trans (key _).2⟩
          · have HP : Hid (s.put 1 f = (s.stop, 220)) := Lib.hid (by simp [VSt.put, hT, VSt.own, VSt.oth, ho, hc, hx, hof])
            rw [decide_eq_false hof] at hne
            clear hT ho i0 hx hof hb
            go_enter Try.func11, Try.ntmps11
            go_wp2_with fail
            go_quiet (fail)
            go_wp2_with fail
            go_quiet (fail)
            go_wp2_with fail
            go_quiet (fail)
            go_wp2_with fail
            refine (stop_any s g _ (HV.out.below (below_drewN (below1 _ _) _))).mono ?_
            rintro e w1 ⟨rfl, hv, hon⟩
            go_wp2_with fail
            go_ret
            rw [HP.out]
            exact ⟨rfl, hv, (Only.of_below (below_drewN (below1 _ _) _)).trans hon⟩

theorem put_arg (s : VSt) (ch : Int) (f : Frm) (g : Nat) (w : World) (h : VoteAt w g s) (h0 : ¬ ch = 0) (h1 : ¬ ch = 1) :
    Calls Try.prog 11 #[.pointer (some ⟨g, 0, none⟩), .int .i64 ch, .agg #[.int .i64 f.c, .int .i64 f.e, .int .u64 f.p, .int .u32 f.q]] w
      fun e w' => e = .returned (.int .i64 (s.put ch f).2) ∧ VoteAt w' g (s.put ch f).1 ∧ Only g w w' := by
  have HV := Lib.hid h
  clear h
  have d0 : (ch != 0) = true := by simpa using h0
  have d1 : (ch != 1) = true := by simpa using h1
  have HP : Hid (s.put ch f = (s, 2)) := Lib.hid (by simp [VSt.put, h0, h1])
  go_enter Try.func11, Try.ntmps11
  go_wp2_with fail
  go_ret
  rw [HP.out]
  exact ⟨rfl, HV.out.below (below1 _ _), Only.of_below (below1 _ _)⟩
theorem put_any (s : VSt) (ch : Int) (f : Frm) (g : Nat) (w : World) (h : VoteAt w g s) :
    Calls Try.prog 11 #[.pointer (some ⟨g, 0, none⟩), .int .i64 ch, .agg #[.int .i64 f.c, .int .i64 f.e, .int .u64 f.p, .int .u32 f.q]] w
      fun e w' => e = .returned (.int .i64 (s.put ch f).2) ∧ VoteAt w' g (s.put ch f).1 ∧ Only g w w' := by
  by_cases h0 : ch = 0
  · subst h0; exact put_zero s f g w h
  by_cases h1 : ch = 1
  · subst h1; exact put_one s f g w h
  exact put_arg s ch f g w h h0 h1
end Go.Proofs.Ytamgaaakmldlbaa
