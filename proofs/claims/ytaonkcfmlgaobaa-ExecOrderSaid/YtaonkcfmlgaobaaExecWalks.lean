/-
  Walks of package exec and of the document's answer for chapter 19: Tick, Done, Reset.
-/
import Derived.Test.YtaonkcfmlgaobaaExec
namespace Go.Proofs.Ytaonkcfmlgaobaa
open Go.RowKit
attribute [local irreducible] ESt.tick ESt.done ESt.reset ESt.left

set_option maxHeartbeats 1000000 in
theorem tick_any (s : ESt) (g : Nat) (w : World) (h : ExAt w g s) (hi : EInv s) : Calls Try.prog 11 #[.pointer (some ⟨g, 0, none⟩)] w fun e w' => e = .returned (.int .i64 s.tick.2) ∧ ExAt w' g s.tick.1 ∧ Only g w w' := by
  have H := Lib.hid h
  have k1 := hi.tk1
  have k2 := hi.tk2
  have k3 := hi.dl1
  have k4 := hi.dl2
  have e0 : w.cell? ⟨g, 0, none⟩ = some (.int .i64 s.ph) := blk_cell h 0 _ rfl
  have e1 : w.cell? ⟨g, 1, none⟩ = some (.int .i64 s.dl) := blk_cell h 1 _ rfl
  have e2 : w.cell? ⟨g, 2, none⟩ = some (.int .i64 s.cy) := blk_cell h 2 _ rfl
  have e3 : w.cell? ⟨g, 3, none⟩ = some (.int .i64 s.p) := blk_cell h 3 _ rfl
  have e4 : w.cell? ⟨g, 4, none⟩ = some (.int .i64 s.tk) := blk_cell h 4 _ rfl
  have e5 : w.cell? ⟨g, 5, none⟩ = some (.bool s.late) := blk_cell h 5 _ rfl
  have f0 := blk_free h
  have hh : Hid (w.heap[g]? = some (.cells #[.int .i64 s.ph, .int .i64 s.dl, .int .i64 s.cy, .int .i64 s.p, .int .i64 s.tk, .bool s.late] 45 (0, 0))) := Lib.hid h
  clear h
  obtain ⟨L, hL⟩ : ∃ L, s.late = L := ⟨_, rfl⟩
  rw [hL] at e5
  cases L with
  | true =>
    have HP : Hid (s.tick = (s, 190)) := Lib.hid (by simp [ESt.tick, hL])
    clear hL
    go_enter Try.func11, Try.ntmps11
    go_wp2_with fail
    go_ret
    rw [HP.out]
    exact ⟨rfl, H.out, Only.refl _ _⟩
  | false =>
    by_cases hc : s.tk < s.dl
    · have HP : Hid (s.tick = (⟨s.ph, s.dl, s.cy, s.p, s.tk + 1, false⟩, 0)) := Lib.hid (by simp [ESt.tick, hL, hc])
      rw [hL] at hh
      clear hL
      
      go_enter Try.func11, Try.ntmps11
      go_wp2_with fail
      go_quiet (fail)
      go_wp2_with fail
      go_ret
      rw [HP.out]
      first
        | exact ⟨rfl, blk_set hh.out 4 _, Only.setCell (p := ⟨g, 4, none⟩) (Only.refl _ _) rfl _⟩
        | exact ⟨rfl, blk_set hh.out 4 _, Only.setCell (p := ⟨g, 4, none⟩) ((Only.refl _ _).drewN _) rfl _⟩
    · have HP : Hid (s.tick = (⟨s.ph, s.dl, s.cy, s.p, s.tk, true⟩, 190)) := Lib.hid (by simp [ESt.tick, hL, hc])
      rw [hL] at hh
      clear hL
      
      go_enter Try.func11, Try.ntmps11
      go_wp2_with fail
      go_quiet (fail)
      go_wp2_with fail
      go_ret
      rw [HP.out]
      first
        | exact ⟨rfl, blk_set hh.out 5 _, Only.setCell (p := ⟨g, 5, none⟩) (Only.refl _ _) rfl _⟩
        | exact ⟨rfl, blk_set hh.out 5 _, Only.setCell (p := ⟨g, 5, none⟩) ((Only.refl _ _).drewN _) rfl _⟩

set_option maxHeartbeats 1000000 in
theorem rtick_any (s : ESt) (g : Nat) (w : World) (h : RxAt w g s) (hi : EInv s) : Calls Try.prog 23 #[.pointer (some ⟨g, 0, none⟩)] w fun e w' => e = .returned (.int .i64 s.tick.2) ∧ RxAt w' g s.tick.1 ∧ Only g w w' := by
  have H := Lib.hid h
  have k1 := hi.tk1
  have k2 := hi.tk2
  have k3 := hi.dl1
  have k4 := hi.dl2
  obtain ⟨t, ht, t1, t2, h⟩ := h
  have e0 : w.cell? ⟨g, 0, none⟩ = some (.int .i64 s.ph) := blk_cell h 0 _ rfl
  have e1 : w.cell? ⟨g, 1, none⟩ = some (.int .i64 s.dl) := blk_cell h 1 _ rfl
  have e2 : w.cell? ⟨g, 2, none⟩ = some (.int .i64 s.cy) := blk_cell h 2 _ rfl
  have e3 : w.cell? ⟨g, 3, none⟩ = some (.int .i64 s.p) := blk_cell h 3 _ rfl
  have e4 : w.cell? ⟨g, 4, none⟩ = some (.int .i64 t) := blk_cell h 4 _ rfl
  have e5 : w.cell? ⟨g, 5, none⟩ = some (.bool s.late) := blk_cell h 5 _ rfl
  have f0 := blk_free h
  have hh : Hid (w.heap[g]? = some (.cells #[.int .i64 s.ph, .int .i64 s.dl, .int .i64 s.cy, .int .i64 s.p, .int .i64 t, .bool s.late] 47 (0, 0))) := Lib.hid h
  clear h
  obtain ⟨L, hL⟩ : ∃ L, s.late = L := ⟨_, rfl⟩
  rw [hL] at e5
  cases L with
  | true =>
    have HP : Hid (s.tick = (s, 190)) := Lib.hid (by simp [ESt.tick, hL])
    clear hL ht
    go_enter Try.func23, Try.ntmps23
    go_wp2_with fail
    go_ret
    rw [HP.out]
    exact ⟨rfl, H.out, Only.refl _ _⟩
  | false =>
    obtain rfl := ht hL
    clear ht t1 t2
    by_cases hc : s.tk < s.dl
    · have HP : Hid (s.tick = (⟨s.ph, s.dl, s.cy, s.p, s.tk + 1, false⟩, 0)) := Lib.hid (by simp [ESt.tick, hL, hc])
      rw [hL] at hh
      clear hL
      have d : decide (s.dl < s.tk + 1) = false := decide_eq_false (by omega)
      go_enter Try.func23, Try.ntmps23
      go_wp2_with fail
      go_quiet (fail)
      go_wp2_with fail
      go_ret
      rw [HP.out]
      exact ⟨rfl, ⟨s.tk + 1, fun _ => rfl, by omega, by omega, blk_set hh.out 4 _⟩, ((Only.refl _ _).setCell (p := ⟨g, 4, none⟩) rfl _).drewN _⟩
    · have HP : Hid (s.tick = (⟨s.ph, s.dl, s.cy, s.p, s.tk, true⟩, 190)) := Lib.hid (by simp [ESt.tick, hL, hc])
      rw [hL] at hh
      clear hL
      have d : decide (s.dl < s.tk + 1) = true := decide_eq_true (by omega)
      go_enter Try.func23, Try.ntmps23
      go_wp2_with fail
      go_quiet (fail)
      go_wp2_with fail
      go_ret
      rw [HP.out]
      refine ⟨rfl, ⟨s.tk + 1, (by intro h; cases h), by omega, by omega, blk_set (blk_set hh.out 4 _) 5 _⟩, ?_⟩
      first
        | exact (((Only.refl _ _).setCell (p := ⟨g, 4, none⟩) rfl _).drewN _).setCell (p := ⟨g, 5, none⟩) rfl _
        | exact (((Only.refl _ _).setCell (p := ⟨g, 4, none⟩) rfl _).setCell (p := ⟨g, 5, none⟩) rfl _).drewN _

theorem begin_any (s : ESt) (g : Nat) (w : World) (h : ExAt w g s) : Calls Try.prog 24 #[.pointer (some ⟨g, 0, none⟩)] w fun e w' => e = .returned (.tuple #[]) ∧ ExAt w' g ⟨s.ph, s.dl, s.cy, 0, 0, false⟩ ∧ Only g w w' := by
  have e0 : w.cell? ⟨g, 0, none⟩ = some (.int .i64 s.ph) := blk_cell h 0 _ rfl
  have e1 : w.cell? ⟨g, 1, none⟩ = some (.int .i64 s.dl) := blk_cell h 1 _ rfl
  have e2 : w.cell? ⟨g, 2, none⟩ = some (.int .i64 s.cy) := blk_cell h 2 _ rfl
  have e3 : w.cell? ⟨g, 3, none⟩ = some (.int .i64 s.p) := blk_cell h 3 _ rfl
  have e4 : w.cell? ⟨g, 4, none⟩ = some (.int .i64 s.tk) := blk_cell h 4 _ rfl
  have e5 : w.cell? ⟨g, 5, none⟩ = some (.bool s.late) := blk_cell h 5 _ rfl
  have f0 := blk_free h
  have hh : Hid (w.heap[g]? = some (.cells #[.int .i64 s.ph, .int .i64 s.dl, .int .i64 s.cy, .int .i64 s.p, .int .i64 s.tk, .bool s.late] 45 (0, 0))) := Lib.hid h
  clear h
  go_enter Try.func24, Try.ntmps24
  go_wp2
  go_end0
  exact ⟨rfl, blk_set (blk_set (blk_set hh.out 3 _) 4 _) 5 _, (((Only.refl _ _).setCell (p := ⟨g, 3, none⟩) rfl _).setCell (p := ⟨g, 4, none⟩) rfl _).setCell (p := ⟨g, 5, none⟩) rfl _⟩

theorem reset_any (s : ESt) (g : Nat) (w : World) (h : ExAt w g s) : Calls Try.prog 12 #[.pointer (some ⟨g, 0, none⟩)] w fun e w' => e = .returned (.int .i64 s.reset.2) ∧ ExAt w' g s.reset.1 ∧ Only g w w' := by
  have H := Lib.hid h
  have e0 : w.cell? ⟨g, 0, none⟩ = some (.int .i64 s.ph) := blk_cell h 0 _ rfl
  have e1 : w.cell? ⟨g, 1, none⟩ = some (.int .i64 s.dl) := blk_cell h 1 _ rfl
  have e2 : w.cell? ⟨g, 2, none⟩ = some (.int .i64 s.cy) := blk_cell h 2 _ rfl
  have e3 : w.cell? ⟨g, 3, none⟩ = some (.int .i64 s.p) := blk_cell h 3 _ rfl
  have e4 : w.cell? ⟨g, 4, none⟩ = some (.int .i64 s.tk) := blk_cell h 4 _ rfl
  have e5 : w.cell? ⟨g, 5, none⟩ = some (.bool s.late) := blk_cell h 5 _ rfl
  have f0 := blk_free h
  have hh : Hid (w.heap[g]? = some (.cells #[.int .i64 s.ph, .int .i64 s.dl, .int .i64 s.cy, .int .i64 s.p, .int .i64 s.tk, .bool s.late] 45 (0, 0))) := Lib.hid h
  clear h
  obtain ⟨L, hL⟩ : ∃ L, s.late = L := ⟨_, rfl⟩
  rw [hL] at e5
  cases L with
  | false =>
    have HP : Hid (s.reset = (s, 4)) := Lib.hid (by simp [ESt.reset, hL])
    clear hL
    go_enter Try.func12, Try.ntmps12
    go_wp2_with fail
    go_ret
    rw [HP.out]
    exact ⟨rfl, H.out, Only.refl _ _⟩
  | true =>
    have HP : Hid (s.reset = (⟨s.ph, s.dl, s.cy, 0, 0, false⟩, 0)) := Lib.hid (by simp [ESt.reset, hL])
    clear hL
    go_enter Try.func12, Try.ntmps12
    go_wp2_with fail
    refine (begin_any s g _ H.out).mono ?_
    rintro e w1 ⟨rfl, h1, ho⟩
    go_wp2_with fail
    go_ret
    rw [HP.out]
    exact ⟨rfl, h1, ho⟩

theorem rreset_any (s : ESt) (g : Nat) (w : World) (h : RxAt w g s) : Calls Try.prog 22 #[.pointer (some ⟨g, 0, none⟩)] w fun e w' => e = .returned (.int .i64 s.reset.2) ∧ RxAt w' g s.reset.1 ∧ Only g w w' := by
  have H := Lib.hid h
  obtain ⟨t, ht, t1, t2, h⟩ := h
  have e0 : w.cell? ⟨g, 0, none⟩ = some (.int .i64 s.ph) := blk_cell h 0 _ rfl
  have e1 : w.cell? ⟨g, 1, none⟩ = some (.int .i64 s.dl) := blk_cell h 1 _ rfl
  have e2 : w.cell? ⟨g, 2, none⟩ = some (.int .i64 s.cy) := blk_cell h 2 _ rfl
  have e3 : w.cell? ⟨g, 3, none⟩ = some (.int .i64 s.p) := blk_cell h 3 _ rfl
  have e4 : w.cell? ⟨g, 4, none⟩ = some (.int .i64 t) := blk_cell h 4 _ rfl
  have e5 : w.cell? ⟨g, 5, none⟩ = some (.bool s.late) := blk_cell h 5 _ rfl
  have f0 := blk_free h
  have hh : Hid (w.heap[g]? = some (.cells #[.int .i64 s.ph, .int .i64 s.dl, .int .i64 s.cy, .int .i64 s.p, .int .i64 t, .bool s.late] 47 (0, 0))) := Lib.hid h
  clear h
  obtain ⟨L, hL⟩ : ∃ L, s.late = L := ⟨_, rfl⟩
  rw [hL] at e5
  cases L with
  | false =>
    have HP : Hid (s.reset = (s, 4)) := Lib.hid (by simp [ESt.reset, hL])
    clear hL ht
    go_enter Try.func22, Try.ntmps22
    go_wp2_with fail
    go_ret
    rw [HP.out]
    exact ⟨rfl, H.out, Only.refl _ _⟩
  | true =>
    have HP : Hid (s.reset = (⟨s.ph, s.dl, s.cy, 0, 0, false⟩, 0)) := Lib.hid (by simp [ESt.reset, hL])
    clear hL ht
    go_enter Try.func22, Try.ntmps22
    go_wp2_with fail
    go_ret
    rw [HP.out]
    exact ⟨rfl, ⟨0, fun _ => rfl, by omega, by omega, blk_set (blk_set (blk_set hh.out 5 _) 3 _) 4 _⟩, (((Only.refl _ _).setCell (p := ⟨g, 5, none⟩) rfl _).setCell (p := ⟨g, 3, none⟩) rfl _).setCell (p := ⟨g, 4, none⟩) rfl _⟩

set_option maxHeartbeats 2000000 in
theorem done_any (s : ESt) (n : Int) (g : Nat) (w : World) (h : ExAt w g s) (hi : EInv s) : Calls Try.prog 14 #[.pointer (some ⟨g, 0, none⟩), .int .i64 n] w fun e w' => e = .returned (.int .i64 (s.done n).2) ∧ ExAt w' g (s.done n).1 ∧ Only g w w' := by
  have H := Lib.hid h
  have k1 := hi.ph1
  have k2 := hi.ph2
  have k3 := hi.p1
  have k4 := hi.p2
  have hw : wrap64 (s.cy + 1) = s.cy + 1 := by have := hi.cy1; have := hi.cy2; unfold wrap64; omega
  have e0 : w.cell? ⟨g, 0, none⟩ = some (.int .i64 s.ph) := blk_cell h 0 _ rfl
  have e1 : w.cell? ⟨g, 1, none⟩ = some (.int .i64 s.dl) := blk_cell h 1 _ rfl
  have e2 : w.cell? ⟨g, 2, none⟩ = some (.int .i64 s.cy) := blk_cell h 2 _ rfl
  have e3 : w.cell? ⟨g, 3, none⟩ = some (.int .i64 s.p) := blk_cell h 3 _ rfl
  have e4 : w.cell? ⟨g, 4, none⟩ = some (.int .i64 s.tk) := blk_cell h 4 _ rfl
  have e5 : w.cell? ⟨g, 5, none⟩ = some (.bool s.late) := blk_cell h 5 _ rfl
  have f0 := blk_free h
  have hh : Hid (w.heap[g]? = some (.cells #[.int .i64 s.ph, .int .i64 s.dl, .int .i64 s.cy, .int .i64 s.p, .int .i64 s.tk, .bool s.late] 45 (0, 0))) := Lib.hid h
  clear h
  obtain ⟨L, hL⟩ : ∃ L, s.late = L := ⟨_, rfl⟩
  rw [hL] at e5
  by_cases h1 : n < 0
  · skip
    have HP : Hid (s.done n = (s, 2)) := Lib.hid (by simp [ESt.done, h1])
    clear hL
    go_enter Try.func14, Try.ntmps14
    go_wp2_with fail
    go_ret
    rw [HP.out]
    exact ⟨rfl, H.out, Only.refl _ _⟩
  have d1 : decide (n < 0) = false := decide_eq_false h1
  by_cases h2 : s.ph ≤ n
  · skip
    have HP : Hid (s.done n = (s, 2)) := Lib.hid (by simp [ESt.done, h2])
    clear hL
    go_enter Try.func14, Try.ntmps14
    go_wp2_with fail
    go_ret
    rw [HP.out]
    exact ⟨rfl, H.out, Only.refl _ _⟩
  have d2 : decide (s.ph ≤ n) = false := decide_eq_false h2
  cases L with
  | true =>
    have HP : Hid (s.done n = (s, 190)) := Lib.hid (by simp [ESt.done, h1, h2, hL])
    clear hL
    go_enter Try.func14, Try.ntmps14
    go_wp2_with fail
    go_ret
    rw [HP.out]
    exact ⟨rfl, H.out, Only.refl _ _⟩
  | false =>
    by_cases h3 : ¬ n = s.p
    · have d3 : (n == s.p) = false := by simpa using h3
      have d4 : (n != s.p) = true := by simpa using h3
      have HP : Hid (s.done n = (s, 4)) := Lib.hid (by simp [ESt.done, h1, h2, hL, h3])
      clear h3
      clear hL
      go_enter Try.func14, Try.ntmps14
      go_wp2_with fail
      go_ret
      rw [HP.out]
      exact ⟨rfl, H.out, Only.refl _ _⟩
    have h3 := Classical.not_not.1 h3
    have d3 : (n == s.p) = true := by simpa using h3
    have d4 : (n != s.p) = false := by simpa using h3
    by_cases h4 : n < s.ph - 1
    · have HP : Hid (s.done n = (⟨s.ph, s.dl, s.cy, s.p + 1, s.tk, false⟩, 0)) := Lib.hid (by simp only [ESt.done]; rw [if_neg (by omega), if_neg (by rw [hL]; decide), if_neg (by omega), if_pos h4])
      have d5 : (n == s.ph - 1) = false := by simp; omega
      have d6 : (s.p + 1 == s.ph) = false := by simp; omega
      rw [hL] at hh
      have h34 := Lib.hid h3
      clear hL h3
      go_enter Try.func14, Try.ntmps14
      go_wp2_with fail
      go_ret
      rw [HP.out]
      first
        | exact ⟨rfl, blk_set hh.out 3 _, Only.setCell (p := ⟨g, 3, none⟩) (Only.refl _ _) rfl _⟩
        | exact ⟨rfl, blk_set hh.out 3 _, Only.setCell (p := ⟨g, 3, none⟩) ((Only.refl _ _).drewN _) rfl _⟩
    have d5 : decide (n < s.ph - 1) = false := decide_eq_false h4
    have d6 : (n == s.ph - 1) = true := by simp; omega
    have d7 : (s.p + 1 == s.ph) = true := by simp; omega
    by_cases h5 : s.cy = 1099511627776
    · have d8 : (s.cy == 1099511627776) = true := by simpa using h5
      have HP : Hid (s.done n = (s, 3)) := Lib.hid (by simp only [ESt.done]; rw [if_neg (by omega), if_neg (by rw [hL]; decide), if_neg (by omega), if_neg h4, if_pos h5])
      clear h5 h3
      clear hL
      go_enter Try.func14, Try.ntmps14
      go_wp2_with fail
      go_ret
      rw [HP.out]
      exact ⟨rfl, H.out, Only.refl _ _⟩
    have d8 : (s.cy == 1099511627776) = false := by simpa using h5
    have HP : Hid (s.done n = (⟨s.ph, s.dl, s.cy + 1, 0, 0, false⟩, 0)) := Lib.hid (by simp only [ESt.done]; rw [if_neg (by omega), if_neg (by rw [hL]; decide), if_neg (by omega), if_neg h4, if_neg h5])
    rw [hL] at hh
    clear hL h3 h5
    go_enter Try.func14, Try.ntmps14
    go_wp2_with fail
    refine (begin_any ⟨s.ph, s.dl, s.cy + 1, s.p, s.tk, false⟩ g _ (blk_set hh.out 2 _)).mono ?_
    rintro e w1 ⟨rfl, h1', ho⟩
    go_wp2_with fail
    go_ret
    rw [HP.out]
    exact ⟨rfl, h1', ((Only.refl _ _).setCell (p := ⟨g, 2, none⟩) rfl _).trans ho⟩

set_option maxHeartbeats 2000000 in
theorem rdone_any (s : ESt) (n : Int) (g : Nat) (w : World) (h : RxAt w g s) (hi : EInv s) : Calls Try.prog 20 #[.pointer (some ⟨g, 0, none⟩), .int .i64 n] w fun e w' => e = .returned (.int .i64 (s.done n).2) ∧ RxAt w' g (s.done n).1 ∧ Only g w w' := by
  have H := Lib.hid h
  have k1 := hi.ph1
  have k2 := hi.ph2
  have k3 := hi.p1
  have k4 := hi.p2
  have hw : wrap64 (s.cy + 1) = s.cy + 1 := by have := hi.cy1; have := hi.cy2; unfold wrap64; omega
  obtain ⟨t, ht, t1, t2, h⟩ := h
  have e0 : w.cell? ⟨g, 0, none⟩ = some (.int .i64 s.ph) := blk_cell h 0 _ rfl
  have e1 : w.cell? ⟨g, 1, none⟩ = some (.int .i64 s.dl) := blk_cell h 1 _ rfl
  have e2 : w.cell? ⟨g, 2, none⟩ = some (.int .i64 s.cy) := blk_cell h 2 _ rfl
  have e3 : w.cell? ⟨g, 3, none⟩ = some (.int .i64 s.p) := blk_cell h 3 _ rfl
  have e4 : w.cell? ⟨g, 4, none⟩ = some (.int .i64 t) := blk_cell h 4 _ rfl
  have e5 : w.cell? ⟨g, 5, none⟩ = some (.bool s.late) := blk_cell h 5 _ rfl
  have f0 := blk_free h
  have hh : Hid (w.heap[g]? = some (.cells #[.int .i64 s.ph, .int .i64 s.dl, .int .i64 s.cy, .int .i64 s.p, .int .i64 t, .bool s.late] 47 (0, 0))) := Lib.hid h
  clear h
  obtain ⟨L, hL⟩ : ∃ L, s.late = L := ⟨_, rfl⟩
  rw [hL] at e5
  by_cases h1 : n < 0
  · skip
    have HP : Hid (s.done n = (s, 2)) := Lib.hid (by simp [ESt.done, h1])
    clear hL ht
    go_enter Try.func20, Try.ntmps20
    go_wp2_with fail
    go_ret
    rw [HP.out]
    exact ⟨rfl, H.out, Only.refl _ _⟩
  have d1 : decide (n < 0) = false := decide_eq_false h1
  by_cases h2 : s.ph ≤ n
  · skip
    have HP : Hid (s.done n = (s, 2)) := Lib.hid (by simp [ESt.done, h2])
    clear hL ht
    go_enter Try.func20, Try.ntmps20
    go_wp2_with fail
    go_ret
    rw [HP.out]
    exact ⟨rfl, H.out, Only.refl _ _⟩
  have d2 : decide (s.ph ≤ n) = false := decide_eq_false h2
  cases L with
  | true =>
    have HP : Hid (s.done n = (s, 190)) := Lib.hid (by simp [ESt.done, h1, h2, hL])
    clear hL ht
    go_enter Try.func20, Try.ntmps20
    go_wp2_with fail
    go_ret
    rw [HP.out]
    exact ⟨rfl, H.out, Only.refl _ _⟩
  | false =>
    obtain rfl := ht hL
    clear t1 t2
    by_cases h3 : ¬ n = s.p
    · have d3 : (n == s.p) = false := by simpa using h3
      have d4 : (n != s.p) = true := by simpa using h3
      have HP : Hid (s.done n = (s, 4)) := Lib.hid (by simp [ESt.done, h1, h2, hL, h3])
      clear h3
      clear hL ht
      go_enter Try.func20, Try.ntmps20
      go_wp2_with fail
      go_ret
      rw [HP.out]
      exact ⟨rfl, H.out, Only.refl _ _⟩
    have h3 := Classical.not_not.1 h3
    have d3 : (n == s.p) = true := by simpa using h3
    have d4 : (n != s.p) = false := by simpa using h3
    by_cases h4 : n < s.ph - 1
    · have HP : Hid (s.done n = (⟨s.ph, s.dl, s.cy, s.p + 1, s.tk, false⟩, 0)) := Lib.hid (by simp only [ESt.done]; rw [if_neg (by omega), if_neg (by rw [hL]; decide), if_neg (by omega), if_pos h4])
      have d5 : (n == s.ph - 1) = false := by simp; omega
      have d6 : (s.p + 1 == s.ph) = false := by simp; omega
      rw [hL] at hh
      have h34 := Lib.hid h3
      clear hL ht h3
      go_enter Try.func20, Try.ntmps20
      go_wp2_with fail
      go_quiet (fail)
      go_wp2_with fail
      go_ret
      rw [HP.out]
      exact ⟨rfl, ⟨s.tk, fun _ => rfl, hi.tk1, by have := hi.tk2; have := hi.dl2; omega, blk_set hh.out 3 _⟩, ((Only.refl _ _).setCell (p := ⟨g, 3, none⟩) rfl _).drewN _⟩
    have d5 : decide (n < s.ph - 1) = false := decide_eq_false h4
    have d6 : (n == s.ph - 1) = true := by simp; omega
    have d7 : (s.p + 1 == s.ph) = true := by simp; omega
    by_cases h5 : s.cy = 1099511627776
    · have d8 : (s.cy == 1099511627776) = true := by simpa using h5
      have HP : Hid (s.done n = (s, 3)) := Lib.hid (by simp only [ESt.done]; rw [if_neg (by omega), if_neg (by rw [hL]; decide), if_neg (by omega), if_neg h4, if_pos h5])
      clear h5 h3
      clear hL ht
      go_enter Try.func20, Try.ntmps20
      go_wp2_with fail
      go_ret
      rw [HP.out]
      exact ⟨rfl, H.out, Only.refl _ _⟩
    have d8 : (s.cy == 1099511627776) = false := by simpa using h5
    have HP : Hid (s.done n = (⟨s.ph, s.dl, s.cy + 1, 0, 0, false⟩, 0)) := Lib.hid (by simp only [ESt.done]; rw [if_neg (by omega), if_neg (by rw [hL]; decide), if_neg (by omega), if_neg h4, if_neg h5])
    rw [hL] at hh
    clear hL ht h3 h5
    go_enter Try.func20, Try.ntmps20
    go_wp2_with fail
    go_quiet (fail)
    go_wp2_with fail
    go_ret
    rw [HP.out]
    refine ⟨rfl, ⟨0, fun _ => rfl, by omega, by omega, blk_set (blk_set (blk_set (blk_set hh.out 3 _) 2 _) 3 _) 4 _⟩, ?_⟩
    first
      | exact (((((Only.refl _ _).setCell (p := ⟨g, 3, none⟩) rfl _).drewN _).setCell (p := ⟨g, 2, none⟩) rfl _).setCell (p := ⟨g, 3, none⟩) rfl _).setCell (p := ⟨g, 4, none⟩) rfl _
      | exact (((((Only.refl _ _).setCell (p := ⟨g, 3, none⟩) rfl _).setCell (p := ⟨g, 2, none⟩) rfl _).setCell (p := ⟨g, 3, none⟩) rfl _).setCell (p := ⟨g, 4, none⟩) rfl _).drewN _
end Go.Proofs.Ytaonkcfmlgaobaa
