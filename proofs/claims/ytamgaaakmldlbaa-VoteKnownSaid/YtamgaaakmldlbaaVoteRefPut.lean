/-
  Walks of the document's answer for chapter 12: Put.
-/
import Derived.Test.YtamgaaakmldlbaaVoteRef
import Derived.RegionTactic
namespace Go.Proofs.Ytamgaaakmldlbaa
open Go.RowKit

theorem setp_zero {w : World} {g : Nat} {a0 a1 a2 a3 a4 a5 a6 a7 a8 a9 a10 a11 a12 a13 a14 a15 a16 : Value} {t : TypeId} {fr : Nat × Nat} (h : w.heap[g]? = some (.cells #[a0, a1, a2, a3, a4, a5, a6, a7, a8, a9, a10, a11, a12, a13, a14, a15, a16] t fr)) (u0 u1 u2 u3 u4 : Value) :
    (((((w.setCell ⟨g, 0, none⟩ u0).setCell ⟨g, 2, none⟩ u1).setCell ⟨g, 3, none⟩ u2).setCell ⟨g, 4, none⟩ u3).setCell ⟨g, 5, none⟩ u4).heap[g]? = some (.cells #[u0, a1, u1, u2, u3, u4, a6, a7, a8, a9, a10, a11, a12, a13, a14, a15, a16] t fr) ∧ Only g w (((((w.setCell ⟨g, 0, none⟩ u0).setCell ⟨g, 2, none⟩ u1).setCell ⟨g, 3, none⟩ u2).setCell ⟨g, 4, none⟩ u3).setCell ⟨g, 5, none⟩ u4) := by
  have o0 : Only g w w := Only.refl g w
  have h1 : (w.setCell ⟨g, 0, none⟩ u0).heap[g]? = some (.cells #[u0, a1, a2, a3, a4, a5, a6, a7, a8, a9, a10, a11, a12, a13, a14, a15, a16] t fr) := blk_set h 0 u0
  have o1 := o0.setCell (p := ⟨g, 0, none⟩) rfl u0
  generalize w.setCell ⟨g, 0, none⟩ u0 = w1 at h1 o1 ⊢
  have h2 : (w1.setCell ⟨g, 2, none⟩ u1).heap[g]? = some (.cells #[u0, a1, u1, a3, a4, a5, a6, a7, a8, a9, a10, a11, a12, a13, a14, a15, a16] t fr) := blk_set h1 2 u1
  have o2 := o1.setCell (p := ⟨g, 2, none⟩) rfl u1
  generalize w1.setCell ⟨g, 2, none⟩ u1 = w2 at h2 o2 ⊢
  have h3 : (w2.setCell ⟨g, 3, none⟩ u2).heap[g]? = some (.cells #[u0, a1, u1, u2, a4, a5, a6, a7, a8, a9, a10, a11, a12, a13, a14, a15, a16] t fr) := blk_set h2 3 u2
  have o3 := o2.setCell (p := ⟨g, 3, none⟩) rfl u2
  generalize w2.setCell ⟨g, 3, none⟩ u2 = w3 at h3 o3 ⊢
  have h4 : (w3.setCell ⟨g, 4, none⟩ u3).heap[g]? = some (.cells #[u0, a1, u1, u2, u3, a5, a6, a7, a8, a9, a10, a11, a12, a13, a14, a15, a16] t fr) := blk_set h3 4 u3
  have o4 := o3.setCell (p := ⟨g, 4, none⟩) rfl u3
  generalize w3.setCell ⟨g, 4, none⟩ u3 = w4 at h4 o4 ⊢
  have h5 : (w4.setCell ⟨g, 5, none⟩ u4).heap[g]? = some (.cells #[u0, a1, u1, u2, u3, u4, a6, a7, a8, a9, a10, a11, a12, a13, a14, a15, a16] t fr) := blk_set h4 5 u4
  have o5 := o4.setCell (p := ⟨g, 5, none⟩) rfl u4
  generalize w4.setCell ⟨g, 5, none⟩ u4 = w5 at h5 o5 ⊢
  exact ⟨h5, o5⟩

theorem setp_one {w : World} {g : Nat} {a0 a1 a2 a3 a4 a5 a6 a7 a8 a9 a10 a11 a12 a13 a14 a15 a16 : Value} {t : TypeId} {fr : Nat × Nat} (h : w.heap[g]? = some (.cells #[a0, a1, a2, a3, a4, a5, a6, a7, a8, a9, a10, a11, a12, a13, a14, a15, a16] t fr)) (u0 u1 u2 u3 u4 : Value) :
    (((((w.setCell ⟨g, 1, none⟩ u0).setCell ⟨g, 6, none⟩ u1).setCell ⟨g, 7, none⟩ u2).setCell ⟨g, 8, none⟩ u3).setCell ⟨g, 9, none⟩ u4).heap[g]? = some (.cells #[a0, u0, a2, a3, a4, a5, u1, u2, u3, u4, a10, a11, a12, a13, a14, a15, a16] t fr) ∧ Only g w (((((w.setCell ⟨g, 1, none⟩ u0).setCell ⟨g, 6, none⟩ u1).setCell ⟨g, 7, none⟩ u2).setCell ⟨g, 8, none⟩ u3).setCell ⟨g, 9, none⟩ u4) := by
  have o0 : Only g w w := Only.refl g w
  have h1 : (w.setCell ⟨g, 1, none⟩ u0).heap[g]? = some (.cells #[a0, u0, a2, a3, a4, a5, a6, a7, a8, a9, a10, a11, a12, a13, a14, a15, a16] t fr) := blk_set h 1 u0
  have o1 := o0.setCell (p := ⟨g, 1, none⟩) rfl u0
  generalize w.setCell ⟨g, 1, none⟩ u0 = w1 at h1 o1 ⊢
  have h2 : (w1.setCell ⟨g, 6, none⟩ u1).heap[g]? = some (.cells #[a0, u0, a2, a3, a4, a5, u1, a7, a8, a9, a10, a11, a12, a13, a14, a15, a16] t fr) := blk_set h1 6 u1
  have o2 := o1.setCell (p := ⟨g, 6, none⟩) rfl u1
  generalize w1.setCell ⟨g, 6, none⟩ u1 = w2 at h2 o2 ⊢
  have h3 : (w2.setCell ⟨g, 7, none⟩ u2).heap[g]? = some (.cells #[a0, u0, a2, a3, a4, a5, u1, u2, a8, a9, a10, a11, a12, a13, a14, a15, a16] t fr) := blk_set h2 7 u2
  have o3 := o2.setCell (p := ⟨g, 7, none⟩) rfl u2
  generalize w2.setCell ⟨g, 7, none⟩ u2 = w3 at h3 o3 ⊢
  have h4 : (w3.setCell ⟨g, 8, none⟩ u3).heap[g]? = some (.cells #[a0, u0, a2, a3, a4, a5, u1, u2, u3, a9, a10, a11, a12, a13, a14, a15, a16] t fr) := blk_set h3 8 u3
  have o4 := o3.setCell (p := ⟨g, 8, none⟩) rfl u3
  generalize w3.setCell ⟨g, 8, none⟩ u3 = w4 at h4 o4 ⊢
  have h5 : (w4.setCell ⟨g, 9, none⟩ u4).heap[g]? = some (.cells #[a0, u0, a2, a3, a4, a5, u1, u2, u3, u4, a10, a11, a12, a13, a14, a15, a16] t fr) := blk_set h4 9 u4
  have o5 := o4.setCell (p := ⟨g, 9, none⟩) rfl u4
  generalize w4.setCell ⟨g, 9, none⟩ u4 = w5 at h5 o5 ⊢
  exact ⟨h5, o5⟩

set_option maxHeartbeats 4000000 in
theorem rput_zero (s : VSt) (f : Frm) (g : Nat) (w : World) (h : RefAt w g s) :
    Calls Try.prog 24 #[.pointer (some ⟨g, 0, none⟩), .int .i64 0, .agg #[.int .i64 f.c, .int .i64 f.e, .int .u64 f.p, .int .u32 f.q]] w
      fun e w' => e = .returned (.int .i64 (s.put 0 f).2) ∧ RefAt w' g (s.put 0 f).1 ∧ Only g w w' := by
  have HV := Lib.hid h
  obtain ⟨F0, F1, FS, h0, h1, h2, h3⟩ := h
  have e0 : w.cell? ⟨g, 0, none⟩ = some (.bool s.p0.isSome) := blk_cell h0 0 _ rfl
  have e1 : w.cell? ⟨g, 1, none⟩ = some (.bool s.p1.isSome) := blk_cell h0 1 _ rfl
  have e2 : w.cell? ⟨g, 2, none⟩ = some (.int .i64 F0.c) := blk_cell h0 2 _ rfl
  have e3 : w.cell? ⟨g, 3, none⟩ = some (.int .i64 F0.e) := blk_cell h0 3 _ rfl
  have e4 : w.cell? ⟨g, 4, none⟩ = some (.int .u64 F0.p) := blk_cell h0 4 _ rfl
  have e5 : w.cell? ⟨g, 5, none⟩ = some (.int .u32 F0.q) := blk_cell h0 5 _ rfl
  have e6 : w.cell? ⟨g, 6, none⟩ = some (.int .i64 F1.c) := blk_cell h0 6 _ rfl
  have e7 : w.cell? ⟨g, 7, none⟩ = some (.int .i64 F1.e) := blk_cell h0 7 _ rfl
  have e8 : w.cell? ⟨g, 8, none⟩ = some (.int .u64 F1.p) := blk_cell h0 8 _ rfl
  have e9 : w.cell? ⟨g, 9, none⟩ = some (.int .u32 F1.q) := blk_cell h0 9 _ rfl
  have e10 : w.cell? ⟨g, 10, none⟩ = some (.bool s.shown.isSome) := blk_cell h0 10 _ rfl
  have e11 : w.cell? ⟨g, 11, none⟩ = some (.int .i64 FS.c) := blk_cell h0 11 _ rfl
  have e12 : w.cell? ⟨g, 12, none⟩ = some (.int .i64 FS.e) := blk_cell h0 12 _ rfl
  have e13 : w.cell? ⟨g, 13, none⟩ = some (.int .u64 FS.p) := blk_cell h0 13 _ rfl
  have e14 : w.cell? ⟨g, 14, none⟩ = some (.int .u32 FS.q) := blk_cell h0 14 _ rfl
  have e15 : w.cell? ⟨g, 15, none⟩ = some (.int .i64 s.last) := blk_cell h0 15 _ rfl
  have e16 : w.cell? ⟨g, 16, none⟩ = some (.bool s.stopped) := blk_cell h0 16 _ rfl
  have f0 := blk_free h0
  have hgl := blk_lt h0
  have H0 := Lib.hid h0
  have H1 := Lib.hid h1
  have H2 := Lib.hid h2
  have H3 := Lib.hid h3
  clear h0 h1 h2 h3
  obtain ⟨T, hT⟩ : ∃ T, s.stopped = T := ⟨_, rfl⟩
  rw [hT] at e16
  cases T with
  | true =>
    have HP : Hid (s.put 0 f = (s, 220)) := Lib.hid (by simp [VSt.put, hT])
    clear hT
    go_enter Try.func24, Try.ntmps24
    go_wp2_with fail
    go_ret
    rw [HP.out]
    exact ⟨rfl, HV.out.below (below1 _ _), Only.of_below (below1 _ _)⟩
  | false =>
    obtain ⟨x, ho⟩ : ∃ x, s.p0 = x := ⟨_, rfl⟩
    rw [ho] at e0
    cases x with
    | some o =>
      have HP : Hid (s.put 0 f = (s.stop, 220)) := Lib.hid (by simp [VSt.put, hT, VSt.own, ho])
      clear hT ho
      go_enter Try.func24, Try.ntmps24
      go_wp2_with fail
      go_quiet (fail)
      go_wp2_with fail
      refine (rstop_any s g _ (HV.out.below (below_drewN (below1 _ _) _))).mono ?_
      rintro e w1 ⟨rfl, hv, hon⟩
      go_wp2_with fail
      go_ret
      rw [HP.out]
      exact ⟨rfl, hv, (Only.of_below (below_drewN (below1 _ _) _)).trans hon⟩

    | none =>
      by_cases hc : f.c ≤ s.last
      · have HP : Hid (s.put 0 f = (s.stop, 220)) := Lib.hid (by simp [VSt.put, hT, VSt.own, ho, hc])
        clear hT ho
        go_enter Try.func24, Try.ntmps24
        go_wp2_with fail
        go_quiet (fail)
        go_wp2_with fail
        refine (rstop_any s g _ (HV.out.below (below_drewN (below1 _ _) _))).mono ?_
        rintro e w1 ⟨rfl, hv, hon⟩
        go_wp2_with fail
        go_ret
        rw [HP.out]
        exact ⟨rfl, hv, (Only.of_below (below_drewN (below1 _ _) _)).trans hon⟩

      · obtain ⟨y, hx⟩ : ∃ y, s.p1 = y := ⟨_, rfl⟩
        rw [hx] at e1
        cases y with
        | none =>
          have HP : Hid (s.put 0 f = (⟨some f, s.p1, s.shown, s.last, s.stopped⟩, 0)) := Lib.hid (by simp [VSt.put, hT, VSt.own, VSt.oth, VSt.lay, ho, hc, hx])
          have HX := Lib.hid hx
          clear hT ho hx
          have hd : decide (f.c ≤ s.last) = false := decide_eq_false hc
          go_enter Try.func24, Try.ntmps24
          go_wp2_with fail
          go_quiet (fail)
          go_wp2_with fail
          go_region
          all_goals
            go_wp2_with fail
            go_ret
            rw [HP.out]
            have key := fun n => setp_zero (blk_keep (below_drewN (below1 w (Obj.cells #[.int .i64 f.c, .int .i64 f.e, .int .u64 f.p, .int .u32 f.q] 40)) n) H0.out) (.bool true) (.int .i64 f.c) (.int .i64 f.e) (.int .u64 f.p) (.int .u32 f.q)
            refine ⟨rfl, ⟨f, F1, FS, (key _).1, ?_, ?_, H3.out⟩, ((Only.of_below (below_drewN (below1 _ _) _)).trans (key _).2).drew⟩
            · intro k hk; cases hk; rfl
            · exact H2.out
        | some o =>
          have hne := neq_rfrm F1 f
          have hgd := rfrm_guard
          have hFo : F1 = o := H2.out o hx
          have hd : decide (f.c ≤ s.last) = false := decide_eq_false hc
          by_cases hof : F1 = f
          · have HP : Hid (s.put 0 f = (⟨none, none, some f, f.c, false⟩, 0)) := Lib.hid (by simp [VSt.put, hT, VSt.own, VSt.oth, ho, hc, hx, ← hFo, hof])
            rw [decide_eq_true hof] at hne
            clear hT ho hx hof hFo
            go_enter Try.func24, Try.ntmps24
            go_wp2_with fail
            go_quiet (fail)
            go_wp2_with fail
            go_ret
            rw [HP.out]
            have key := fun n => set17 (blk_keep (below_drewN (below1 w (Obj.cells #[.int .i64 f.c, .int .i64 f.e, .int .u64 f.p, .int .u32 f.q] 40)) n) H0.out) (.bool false) (.bool false) (.int .i64 0) (.int .i64 0) (.int .u64 0) (.int .u32 0) (.int .i64 0) (.int .i64 0) (.int .u64 0) (.int .u32 0) (.bool true) (.int .i64 f.c) (.int .i64 f.e) (.int .u64 f.p) (.int .u32 f.q) (.int .i64 f.c) (.bool false)
            refine ⟨rfl, ⟨zf, zf, f, (key _).1, (by intro f hf; cases hf), (by intro f hf; cases hf), rfl⟩, (Only.of_below (below_drewN (below1 _ _) _)).trans (key _).2⟩
          · have HP : Hid (s.put 0 f = (s.stop, 220)) := Lib.hid (by simp [VSt.put, hT, VSt.own, VSt.oth, ho, hc, hx, ← hFo, hof])
            rw [decide_eq_false hof] at hne
            clear hT ho hx hof hFo
            go_enter Try.func24, Try.ntmps24
            go_wp2_with fail
            go_quiet (fail)
            go_wp2_with fail
            refine (rstop_any s g _ (HV.out.below (below_drewN (below1 _ _) _))).mono ?_
            rintro e w1 ⟨rfl, hv, hon⟩
            go_wp2_with fail
            go_ret
            rw [HP.out]
            exact ⟨rfl, hv, (Only.of_below (below_drewN (below1 _ _) _)).trans hon⟩


set_option maxHeartbeats 4000000 in
theorem rput_one (s : VSt) (f : Frm) (g : Nat) (w : World) (h : RefAt w g s) :
    Calls Try.prog 24 #[.pointer (some ⟨g, 0, none⟩), .int .i64 1, .agg #[.int .i64 f.c, .int .i64 f.e, .int .u64 f.p, .int .u32 f.q]] w
      fun e w' => e = .returned (.int .i64 (s.put 1 f).2) ∧ RefAt w' g (s.put 1 f).1 ∧ Only g w w' := by
  have HV := Lib.hid h
  obtain ⟨F0, F1, FS, h0, h1, h2, h3⟩ := h
  have e0 : w.cell? ⟨g, 0, none⟩ = some (.bool s.p0.isSome) := blk_cell h0 0 _ rfl
  have e1 : w.cell? ⟨g, 1, none⟩ = some (.bool s.p1.isSome) := blk_cell h0 1 _ rfl
  have e2 : w.cell? ⟨g, 2, none⟩ = some (.int .i64 F0.c) := blk_cell h0 2 _ rfl
  have e3 : w.cell? ⟨g, 3, none⟩ = some (.int .i64 F0.e) := blk_cell h0 3 _ rfl
  have e4 : w.cell? ⟨g, 4, none⟩ = some (.int .u64 F0.p) := blk_cell h0 4 _ rfl
  have e5 : w.cell? ⟨g, 5, none⟩ = some (.int .u32 F0.q) := blk_cell h0 5 _ rfl
  have e6 : w.cell? ⟨g, 6, none⟩ = some (.int .i64 F1.c) := blk_cell h0 6 _ rfl
  have e7 : w.cell? ⟨g, 7, none⟩ = some (.int .i64 F1.e) := blk_cell h0 7 _ rfl
  have e8 : w.cell? ⟨g, 8, none⟩ = some (.int .u64 F1.p) := blk_cell h0 8 _ rfl
  have e9 : w.cell? ⟨g, 9, none⟩ = some (.int .u32 F1.q) := blk_cell h0 9 _ rfl
  have e10 : w.cell? ⟨g, 10, none⟩ = some (.bool s.shown.isSome) := blk_cell h0 10 _ rfl
  have e11 : w.cell? ⟨g, 11, none⟩ = some (.int .i64 FS.c) := blk_cell h0 11 _ rfl
  have e12 : w.cell? ⟨g, 12, none⟩ = some (.int .i64 FS.e) := blk_cell h0 12 _ rfl
  have e13 : w.cell? ⟨g, 13, none⟩ = some (.int .u64 FS.p) := blk_cell h0 13 _ rfl
  have e14 : w.cell? ⟨g, 14, none⟩ = some (.int .u32 FS.q) := blk_cell h0 14 _ rfl
  have e15 : w.cell? ⟨g, 15, none⟩ = some (.int .i64 s.last) := blk_cell h0 15 _ rfl
  have e16 : w.cell? ⟨g, 16, none⟩ = some (.bool s.stopped) := blk_cell h0 16 _ rfl
  have f0 := blk_free h0
  have hgl := blk_lt h0
  have H0 := Lib.hid h0
  have H1 := Lib.hid h1
  have H2 := Lib.hid h2
  have H3 := Lib.hid h3
  clear h0 h1 h2 h3
  obtain ⟨T, hT⟩ : ∃ T, s.stopped = T := ⟨_, rfl⟩
  rw [hT] at e16
  cases T with
  | true =>
    have HP : Hid (s.put 1 f = (s, 220)) := Lib.hid (by simp [VSt.put, hT])
    clear hT
    go_enter Try.func24, Try.ntmps24
    go_wp2_with fail
    go_ret
    rw [HP.out]
    exact ⟨rfl, HV.out.below (below1 _ _), Only.of_below (below1 _ _)⟩
  | false =>
    obtain ⟨x, ho⟩ : ∃ x, s.p1 = x := ⟨_, rfl⟩
    rw [ho] at e1
    cases x with
    | some o =>
      have HP : Hid (s.put 1 f = (s.stop, 220)) := Lib.hid (by simp [VSt.put, hT, VSt.own, ho])
      clear hT ho
      go_enter Try.func24, Try.ntmps24
      go_wp2_with fail
      go_quiet (fail)
      go_wp2_with fail
      refine (rstop_any s g _ (HV.out.below (below_drewN (below1 _ _) _))).mono ?_
      rintro e w1 ⟨rfl, hv, hon⟩
      go_wp2_with fail
      go_ret
      rw [HP.out]
      exact ⟨rfl, hv, (Only.of_below (below_drewN (below1 _ _) _)).trans hon⟩

    | none =>
      by_cases hc : f.c ≤ s.last
      · have HP : Hid (s.put 1 f = (s.stop, 220)) := Lib.hid (by simp [VSt.put, hT, VSt.own, ho, hc])
        clear hT ho
        go_enter Try.func24, Try.ntmps24
        go_wp2_with fail
        go_quiet (fail)
        go_wp2_with fail
        refine (rstop_any s g _ (HV.out.below (below_drewN (below1 _ _) _))).mono ?_
        rintro e w1 ⟨rfl, hv, hon⟩
        go_wp2_with fail
        go_ret
        rw [HP.out]
        exact ⟨rfl, hv, (Only.of_below (below_drewN (below1 _ _) _)).trans hon⟩

      · obtain ⟨y, hx⟩ : ∃ y, s.p0 = y := ⟨_, rfl⟩
        rw [hx] at e0
        cases y with
        | none =>
          have HP : Hid (s.put 1 f = (⟨s.p0, some f, s.shown, s.last, s.stopped⟩, 0)) := Lib.hid (by simp [VSt.put, hT, VSt.own, VSt.oth, VSt.lay, ho, hc, hx])
          have HX := Lib.hid hx
          clear hT ho hx
          have hd : decide (f.c ≤ s.last) = false := decide_eq_false hc
          go_enter Try.func24, Try.ntmps24
          go_wp2_with fail
          go_quiet (fail)
          go_wp2_with fail
          go_region
          all_goals
            go_wp2_with fail
            go_ret
            rw [HP.out]
            have key := fun n => setp_one (blk_keep (below_drewN (below1 w (Obj.cells #[.int .i64 f.c, .int .i64 f.e, .int .u64 f.p, .int .u32 f.q] 40)) n) H0.out) (.bool true) (.int .i64 f.c) (.int .i64 f.e) (.int .u64 f.p) (.int .u32 f.q)
            refine ⟨rfl, ⟨F0, f, FS, (key _).1, ?_, ?_, H3.out⟩, ((Only.of_below (below_drewN (below1 _ _) _)).trans (key _).2).drew⟩
            · exact H1.out
            · intro k hk; cases hk; rfl
        | some o =>
          have hne := neq_rfrm F0 f
          have hgd := rfrm_guard
          have hFo : F0 = o := H1.out o hx
          have hd : decide (f.c ≤ s.last) = false := decide_eq_false hc
          by_cases hof : F0 = f
          · have HP : Hid (s.put 1 f = (⟨none, none, some f, f.c, false⟩, 0)) := Lib.hid (by simp [VSt.put, hT, VSt.own, VSt.oth, ho, hc, hx, ← hFo, hof])
            rw [decide_eq_true hof] at hne
            clear hT ho hx hof hFo
            go_enter Try.func24, Try.ntmps24
            go_wp2_with fail
            go_quiet (fail)
            go_wp2_with fail
            go_ret
            rw [HP.out]
            have key := fun n => set17 (blk_keep (below_drewN (below1 w (Obj.cells #[.int .i64 f.c, .int .i64 f.e, .int .u64 f.p, .int .u32 f.q] 40)) n) H0.out) (.bool false) (.bool false) (.int .i64 0) (.int .i64 0) (.int .u64 0) (.int .u32 0) (.int .i64 0) (.int .i64 0) (.int .u64 0) (.int .u32 0) (.bool true) (.int .i64 f.c) (.int .i64 f.e) (.int .u64 f.p) (.int .u32 f.q) (.int .i64 f.c) (.bool false)
            refine ⟨rfl, ⟨zf, zf, f, (key _).1, (by intro f hf; cases hf), (by intro f hf; cases hf), rfl⟩, (Only.of_below (below_drewN (below1 _ _) _)).trans (key _).2⟩
          · have HP : Hid (s.put 1 f = (s.stop, 220)) := Lib.hid (by simp [VSt.put, hT, VSt.own, VSt.oth, ho, hc, hx, ← hFo, hof])
            rw [decide_eq_false hof] at hne
            clear hT ho hx hof hFo
            go_enter Try.func24, Try.ntmps24
            go_wp2_with fail
            go_quiet (fail)
            go_wp2_with fail
            refine (rstop_any s g _ (HV.out.below (below_drewN (below1 _ _) _))).mono ?_
            rintro e w1 ⟨rfl, hv, hon⟩
            go_wp2_with fail
            go_ret
            rw [HP.out]
            exact ⟨rfl, hv, (Only.of_below (below_drewN (below1 _ _) _)).trans hon⟩


theorem rput_arg (s : VSt) (ch : Int) (f : Frm) (g : Nat) (w : World) (h : RefAt w g s) (h0 : ¬ ch = 0) (h1 : ¬ ch = 1) :
    Calls Try.prog 24 #[.pointer (some ⟨g, 0, none⟩), .int .i64 ch, .agg #[.int .i64 f.c, .int .i64 f.e, .int .u64 f.p, .int .u32 f.q]] w
      fun e w' => e = .returned (.int .i64 (s.put ch f).2) ∧ RefAt w' g (s.put ch f).1 ∧ Only g w w' := by
  have HV := Lib.hid h
  clear h
  have d0 : (ch != 0) = true := by simpa using h0
  have d1 : (ch != 1) = true := by simpa using h1
  have HP : Hid (s.put ch f = (s, 2)) := Lib.hid (by simp [VSt.put, h0, h1])
  go_enter Try.func24, Try.ntmps24
  go_wp2_with fail
  go_ret
  rw [HP.out]
  exact ⟨rfl, HV.out.below (below1 _ _), Only.of_below (below1 _ _)⟩
theorem rput_any (s : VSt) (ch : Int) (f : Frm) (g : Nat) (w : World) (h : RefAt w g s) :
    Calls Try.prog 24 #[.pointer (some ⟨g, 0, none⟩), .int .i64 ch, .agg #[.int .i64 f.c, .int .i64 f.e, .int .u64 f.p, .int .u32 f.q]] w
      fun e w' => e = .returned (.int .i64 (s.put ch f).2) ∧ RefAt w' g (s.put ch f).1 ∧ Only g w w' := by
  by_cases h0 : ch = 0
  · subst h0; exact rput_zero s f g w h
  by_cases h1 : ch = 1
  · subst h1; exact rput_one s f g w h
  exact rput_arg s ch f g w h h0 h1
end Go.Proofs.Ytamgaaakmldlbaa
