/-
  The executive of chapter 19, as an abstract machine; what lies in memory for it.
-/
import Derived.Test.YtaonkcfmlgaobaaProg
import Derived.Test.YtaonkcfmlgaobaaBase2
import Derived.Test.YtaonkcfmlgaobaaObj
import Derived.Test.YtaonkcfmlgaobaaRead2
import Derived.Deep.QuietTactic
import Derived.BigQuiet
import Derived.IntWalk
import Derived.RegionTactic
namespace Go.Proofs.Ytaonkcfmlgaobaa
open Go.RowKit

/-- an executive: phases, deadline, cycle, phase, ticks, late -/
structure ESt where
  ph : Int
  dl : Int
  cy : Int
  p : Int
  tk : Int
  late : Bool
structure EInv (s : ESt) : Prop where
  ph1 : 1 ≤ s.ph
  ph2 : s.ph ≤ 16
  dl1 : 1 ≤ s.dl
  dl2 : s.dl ≤ 1000
  cy1 : 0 ≤ s.cy
  cy2 : s.cy ≤ 1099511627776
  p1 : 0 ≤ s.p
  p2 : s.p < s.ph
  tk1 : 0 ≤ s.tk
  tk2 : s.tk ≤ s.dl
def ESt.tick (s : ESt) : ESt × Int := if s.late then (s, 190) else if s.tk < s.dl then (⟨s.ph, s.dl, s.cy, s.p, s.tk + 1, false⟩, 0) else (⟨s.ph, s.dl, s.cy, s.p, s.tk, true⟩, 190)
def ESt.done (s : ESt) (n : Int) : ESt × Int :=
  if n < 0 ∨ s.ph ≤ n then (s, 2) else if s.late then (s, 190) else if n ≠ s.p then (s, 4)
  else if n < s.ph - 1 then (⟨s.ph, s.dl, s.cy, s.p + 1, s.tk, false⟩, 0) else if s.cy = 1099511627776 then (s, 3) else (⟨s.ph, s.dl, s.cy + 1, 0, 0, false⟩, 0)
def ESt.reset (s : ESt) : ESt × Int := if s.late then (⟨s.ph, s.dl, s.cy, 0, 0, false⟩, 0) else (s, 4)
def ESt.left (s : ESt) : Int := if s.late then 0 else s.dl - s.tk
theorem EInv.tick {s : ESt} (h : EInv s) : EInv s.tick.1 := by
  unfold ESt.tick
  split
  · exact h
  · split
    · exact ⟨h.ph1, h.ph2, h.dl1, h.dl2, h.cy1, h.cy2, h.p1, h.p2, by have := h.tk1; dsimp only; omega, by dsimp only; omega⟩
    · exact ⟨h.ph1, h.ph2, h.dl1, h.dl2, h.cy1, h.cy2, h.p1, h.p2, h.tk1, h.tk2⟩
theorem EInv.done {s : ESt} (h : EInv s) (n : Int) : EInv (s.done n).1 := by
  unfold ESt.done
  split
  · exact h
  split
  · exact h
  split
  · exact h
  split
  · exact ⟨h.ph1, h.ph2, h.dl1, h.dl2, h.cy1, h.cy2, by have := h.p1; dsimp only; omega, by dsimp only; omega, h.tk1, h.tk2⟩
  split
  · exact h
  · exact ⟨h.ph1, h.ph2, h.dl1, h.dl2, by have := h.cy1; dsimp only; omega, by have := h.cy2; dsimp only; omega, by dsimp only; omega, by have := h.ph1; dsimp only; omega, by dsimp only; omega, by have := h.dl1; dsimp only; omega⟩
theorem EInv.reset {s : ESt} (h : EInv s) : EInv s.reset.1 := by
  unfold ESt.reset
  split
  · exact ⟨h.ph1, h.ph2, h.dl1, h.dl2, h.cy1, h.cy2, by dsimp only; omega, by have := h.ph1; dsimp only; omega, by dsimp only; omega, by have := h.dl1; dsimp only; omega⟩
  · exact h
def ExAt (w : World) (g : Nat) (s : ESt) : Prop := w.heap[g]? = some (.cells #[.int .i64 s.ph, .int .i64 s.dl, .int .i64 s.cy, .int .i64 s.p, .int .i64 s.tk, .bool s.late] 45 (0, 0))
def RxAt (w : World) (g : Nat) (s : ESt) : Prop := ∃ t : Int, (s.late = false → t = s.tk) ∧ 0 ≤ t ∧ t ≤ 1001 ∧ w.heap[g]? = some (.cells #[.int .i64 s.ph, .int .i64 s.dl, .int .i64 s.cy, .int .i64 s.p, .int .i64 t, .bool s.late] 47 (0, 0))
theorem ExAt.below {w w' : World} {g : Nat} {s : ESt} (hb : Below w.heap.size w w') (h : ExAt w g s) : ExAt w' g s := blk_keep hb h
theorem RxAt.below {w w' : World} {g : Nat} {s : ESt} (hb : Below w.heap.size w w') (h : RxAt w g s) : RxAt w' g s := by
  obtain ⟨t, h1, h2, h3, h4⟩ := h; exact ⟨t, h1, h2, h3, blk_keep hb h4⟩
theorem ExAt.only {w w' : World} {g k : Nat} {s : ESt} (hk : k ≠ g) (ho : Only k w w') (h : ExAt w g s) : ExAt w' g s := ho.keep hk.symm h
theorem RxAt.only {w w' : World} {g k : Nat} {s : ESt} (hk : k ≠ g) (ho : Only k w w') (h : RxAt w g s) : RxAt w' g s := by
  obtain ⟨t, h1, h2, h3, h4⟩ := h; exact ⟨t, h1, h2, h3, ho.keep hk.symm h4⟩
attribute [local irreducible] ESt.tick ESt.done ESt.reset ESt.left
theorem cycle_any (s : ESt) (g : Nat) (w : World) (h : ExAt w g s) : Calls Try.prog 15 #[.pointer (some ⟨g, 0, none⟩)] w fun e w' => e = .returned (.int .i64 s.cy) ∧ w = w' := by
  have e0 : w.cell? ⟨g, 0, none⟩ = some (.int .i64 s.ph) := blk_cell h 0 _ rfl
  have e1 : w.cell? ⟨g, 1, none⟩ = some (.int .i64 s.dl) := blk_cell h 1 _ rfl
  have e2 : w.cell? ⟨g, 2, none⟩ = some (.int .i64 s.cy) := blk_cell h 2 _ rfl
  have e3 : w.cell? ⟨g, 3, none⟩ = some (.int .i64 s.p) := blk_cell h 3 _ rfl
  have e4 : w.cell? ⟨g, 4, none⟩ = some (.int .i64 s.tk) := blk_cell h 4 _ rfl
  have e5 : w.cell? ⟨g, 5, none⟩ = some (.bool s.late) := blk_cell h 5 _ rfl
  have f0 := blk_free h
  clear h
  go_enter Try.func15, Try.ntmps15
  go_wp2
  go_ret
  exact ⟨rfl, rfl⟩
theorem phase_any (s : ESt) (g : Nat) (w : World) (h : ExAt w g s) : Calls Try.prog 16 #[.pointer (some ⟨g, 0, none⟩)] w fun e w' => e = .returned (.int .i64 s.p) ∧ w = w' := by
  have e0 : w.cell? ⟨g, 0, none⟩ = some (.int .i64 s.ph) := blk_cell h 0 _ rfl
  have e1 : w.cell? ⟨g, 1, none⟩ = some (.int .i64 s.dl) := blk_cell h 1 _ rfl
  have e2 : w.cell? ⟨g, 2, none⟩ = some (.int .i64 s.cy) := blk_cell h 2 _ rfl
  have e3 : w.cell? ⟨g, 3, none⟩ = some (.int .i64 s.p) := blk_cell h 3 _ rfl
  have e4 : w.cell? ⟨g, 4, none⟩ = some (.int .i64 s.tk) := blk_cell h 4 _ rfl
  have e5 : w.cell? ⟨g, 5, none⟩ = some (.bool s.late) := blk_cell h 5 _ rfl
  have f0 := blk_free h
  clear h
  go_enter Try.func16, Try.ntmps16
  go_wp2
  go_ret
  exact ⟨rfl, rfl⟩
theorem late_any (s : ESt) (g : Nat) (w : World) (h : ExAt w g s) : Calls Try.prog 13 #[.pointer (some ⟨g, 0, none⟩)] w fun e w' => e = .returned (.bool s.late) ∧ w = w' := by
  have e0 : w.cell? ⟨g, 0, none⟩ = some (.int .i64 s.ph) := blk_cell h 0 _ rfl
  have e1 : w.cell? ⟨g, 1, none⟩ = some (.int .i64 s.dl) := blk_cell h 1 _ rfl
  have e2 : w.cell? ⟨g, 2, none⟩ = some (.int .i64 s.cy) := blk_cell h 2 _ rfl
  have e3 : w.cell? ⟨g, 3, none⟩ = some (.int .i64 s.p) := blk_cell h 3 _ rfl
  have e4 : w.cell? ⟨g, 4, none⟩ = some (.int .i64 s.tk) := blk_cell h 4 _ rfl
  have e5 : w.cell? ⟨g, 5, none⟩ = some (.bool s.late) := blk_cell h 5 _ rfl
  have f0 := blk_free h
  clear h
  go_enter Try.func13, Try.ntmps13
  go_wp2
  go_ret
  exact ⟨rfl, rfl⟩
theorem left_any (s : ESt) (g : Nat) (w : World) (h : ExAt w g s) (hi : EInv s) : Calls Try.prog 18 #[.pointer (some ⟨g, 0, none⟩)] w fun e w' => e = .returned (.int .i64 s.left) ∧ Below w.heap.size w w' := by
  have e1 : w.cell? ⟨g, 1, none⟩ = some (.int .i64 s.dl) := blk_cell h 1 _ rfl
  have e4 : w.cell? ⟨g, 4, none⟩ = some (.int .i64 s.tk) := blk_cell h 4 _ rfl
  have e5 : w.cell? ⟨g, 5, none⟩ = some (.bool s.late) := blk_cell h 5 _ rfl
  have hH := Lib.hid h
  obtain ⟨L, hL⟩ : ∃ L, s.late = L := ⟨_, rfl⟩
  rw [hL] at e5
  clear h
  cases L with
  | true =>
    have HR : Hid (s.left = 0) := Lib.hid (by simp [ESt.left, hL])
    have HL := Lib.hid hL
    clear hL
    go_enter Try.func18, Try.ntmps18
    go_wp2_with fail
    refine (late_any s g _ hH.out).mono ?_
    rintro e w1 ⟨rfl, rfl⟩
    rw [HL.out]
    go_wp2_with fail
    go_ret
    rw [HR.out]
    exact ⟨rfl, Below.refl _ _⟩
  | false =>
    have HR : Hid (s.left = s.dl - s.tk) := Lib.hid (by simp [ESt.left, hL])
    
    have hd1 := hi.dl1
    have hd2 := hi.dl2
    have hd3 := hi.tk1
    have hd4 := hi.tk2
    have hw1 : IntKind.i64.wrap (s.dl - s.tk) = s.dl - s.tk := by rw [IntKind.wrap_i64]; omega
    have HL := Lib.hid hL
    clear hL
    go_enter Try.func18, Try.ntmps18
    go_wp2_with fail
    refine (late_any s g _ hH.out).mono ?_
    rintro e w1 ⟨rfl, rfl⟩
    rw [HL.out]
    go_wp2_with fail
    go_quiet (fail)
    go_wp2_with fail
    go_ret
    rw [HR.out]
    exact ⟨rfl, below_drewN (Below.refl _ _) _⟩
theorem rleft_any (s : ESt) (g : Nat) (w : World) (h : RxAt w g s) (hi : EInv s) : Calls Try.prog 19 #[.pointer (some ⟨g, 0, none⟩)] w fun e w' => e = .returned (.int .i64 s.left) ∧ Below w.heap.size w w' := by
  obtain ⟨t, ht, t1, t2, h⟩ := h
  have e1 : w.cell? ⟨g, 1, none⟩ = some (.int .i64 s.dl) := blk_cell h 1 _ rfl
  have e4 : w.cell? ⟨g, 4, none⟩ = some (.int .i64 t) := blk_cell h 4 _ rfl
  have e5 : w.cell? ⟨g, 5, none⟩ = some (.bool s.late) := blk_cell h 5 _ rfl
  have hH := Lib.hid h
  obtain ⟨L, hL⟩ : ∃ L, s.late = L := ⟨_, rfl⟩
  rw [hL] at e5
  clear h
  cases L with
  | true =>
    have HR : Hid (s.left = 0) := Lib.hid (by simp [ESt.left, hL])
    
    clear hL ht
    go_enter Try.func19, Try.ntmps19
    go_wp2_with fail
    go_ret
    rw [HR.out]
    exact ⟨rfl, Below.refl _ _⟩
  | false =>
    have HR : Hid (s.left = s.dl - s.tk) := Lib.hid (by simp [ESt.left, hL])
    obtain rfl := ht hL
    have hd1 := hi.dl1
    have hd2 := hi.dl2
    have hd3 := hi.tk1
    have hd4 := hi.tk2
    have hw1 : IntKind.i64.wrap (s.dl - s.tk) = s.dl - s.tk := by rw [IntKind.wrap_i64]; omega
    
    clear hL ht t1 t2
    go_enter Try.func19, Try.ntmps19
    go_wp2_with fail
    go_quiet (fail)
    go_wp2_with fail
    go_ret
    rw [HR.out]
    exact ⟨rfl, below_drewN (Below.refl _ _) _⟩
end Go.Proofs.Ytaonkcfmlgaobaa
