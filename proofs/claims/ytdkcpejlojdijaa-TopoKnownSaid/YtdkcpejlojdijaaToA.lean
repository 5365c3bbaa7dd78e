/-
  Walks: names.Sign, names.Right, and the document's.
-/
import Derived.Test.YtdkcpejlojdijaaTo
import Derived.Test.YtdkcpejlojdijaaCalm
import Derived.Deep.QuietTactic
import Derived.BigQuiet
import Derived.RegionTactic
import Derived.IntWalk
import Derived.Laws.RangeAny
import Derived.LoopTactic
namespace Go.Proofs.Ytdkcpejlojdijaa
open Go.RowKit

def signB (r : Int) : Bool := decide (33 ≤ r ∧ r ≠ 58 ∧ r ≠ 35 ∧ r ≠ 43 ∧ r ≠ 45 ∧ r ≠ 65533 ∧ (r < 127 ∨ 160 < r))
/-- the characters from a place on, of a text of which n have been read -/
def rgo (s : BA) : Nat → Nat → Nat → Bool
  | 0, _, n => decide (1 ≤ n ∧ n ≤ 16)
  | b + 1, pos, n => if pos < s.size then (if signB (Utf8.decode s pos).1 then rgo s b (pos + (Utf8.decode s pos).2) (n + 1) else false) else decide (1 ≤ n ∧ n ≤ 16)
def rightS (s : BA) : Bool := rgo s s.size 0 0
theorem rgo_end (s : BA) (b pos n : Nat) (h : ¬ pos < s.size) : rgo s b pos n = decide (1 ≤ n ∧ n ≤ 16) := by
  cases b with
  | zero => rfl
  | succ b => simp [rgo, h]
theorem width_pos (s : BA) (pos : Nat) (h : pos < s.size) : 1 ≤ (Utf8.decode s pos).2 := by
  by_cases ha : (s[pos]'h).toNat < 128
  · rw [decode_ascii s pos h ha]
    exact Nat.le_refl _
  · exact (decode_high s pos h (by omega)).2
theorem sign_is (r : Int) (w : World) : Calls Try.prog 52 #[.int .i32 r] w fun e w' => e = .returned (.bool (signB r)) ∧ w = w' := by
  by_cases h1 : r < 33
  · have HB : Hid (signB r = false) := Lib.hid (decide_eq_false (by omega))
    go_enter Try.func52, Try.ntmps52
    go_wp2_with fail
    go_ret
    exact ⟨by rw [HB.out]; rfl, rfl⟩
  by_cases h2 : 127 ≤ r
  · by_cases h3 : r ≤ 160
    · have HB : Hid (signB r = false) := Lib.hid (decide_eq_false (by omega))
      go_enter Try.func52, Try.ntmps52
      go_wp2_with fail
      go_ret
      exact ⟨by rw [HB.out]; rfl, rfl⟩
    by_cases h4 : r = 65533
    · subst h4
      have HB : Hid (signB 65533 = false) := Lib.hid (by decide)
      go_enter Try.func52, Try.ntmps52
      go_wp2_with fail
      go_ret
      exact ⟨by rw [HB.out]; rfl, rfl⟩
    · have HB : Hid (signB r = true) := Lib.hid (decide_eq_true (by omega))
      have e1 : (r == 58) = false := by simp; omega
      have e2 : (r == 35) = false := by simp; omega
      have e3 : (r == 43) = false := by simp; omega
      have e4 : (r == 45) = false := by simp; omega
      have e5 : (r == 65533) = false := by simp; omega
      clear h4
      go_enter Try.func52, Try.ntmps52
      go_wp2_with fail
      go_ret
      exact ⟨by rw [HB.out]; rfl, rfl⟩
  · by_cases h4 : r = 58
    · subst h4
      have HB : Hid (signB 58 = false) := Lib.hid (by decide)
      go_enter Try.func52, Try.ntmps52
      go_wp2_with fail
      go_ret
      exact ⟨by rw [HB.out]; rfl, rfl⟩
    by_cases h5 : r = 35
    · subst h5
      have HB : Hid (signB 35 = false) := Lib.hid (by decide)
      go_enter Try.func52, Try.ntmps52
      go_wp2_with fail
      go_ret
      exact ⟨by rw [HB.out]; rfl, rfl⟩
    by_cases h6 : r = 43
    · subst h6
      have HB : Hid (signB 43 = false) := Lib.hid (by decide)
      go_enter Try.func52, Try.ntmps52
      go_wp2_with fail
      go_ret
      exact ⟨by rw [HB.out]; rfl, rfl⟩
    by_cases h7 : r = 45
    · subst h7
      have HB : Hid (signB 45 = false) := Lib.hid (by decide)
      go_enter Try.func52, Try.ntmps52
      go_wp2_with fail
      go_ret
      exact ⟨by rw [HB.out]; rfl, rfl⟩
    · have HB : Hid (signB r = true) := Lib.hid (decide_eq_true (by omega))
      have e1 : (r == 58) = false := by simpa using h4
      have e2 : (r == 35) = false := by simpa using h5
      have e3 : (r == 43) = false := by simpa using h6
      have e4 : (r == 45) = false := by simpa using h7
      have e5 : (r == 65533) = false := by simp; omega
      clear h4 h5 h6 h7
      go_enter Try.func52, Try.ntmps52
      go_wp2_with fail
      go_ret
      exact ⟨by rw [HB.out]; rfl, rfl⟩
theorem rsign_is (r : Int) (w : World) : Calls Try.prog 59 #[.int .i32 r] w fun e w' => e = .returned (.bool (signB r)) ∧ w = w' := by
  by_cases h1 : 33 ≤ r
  · by_cases h4 : r = 58
    · subst h4
      have HB : Hid (signB 58 = false) := Lib.hid (by decide)
      go_enter Try.func59, Try.ntmps59
      go_wp2_with fail
      go_ret
      exact ⟨by rw [HB.out]; rfl, rfl⟩
    by_cases h5 : r = 35
    · subst h5
      have HB : Hid (signB 35 = false) := Lib.hid (by decide)
      go_enter Try.func59, Try.ntmps59
      go_wp2_with fail
      go_ret
      exact ⟨by rw [HB.out]; rfl, rfl⟩
    by_cases h6 : r = 43
    · subst h6
      have HB : Hid (signB 43 = false) := Lib.hid (by decide)
      go_enter Try.func59, Try.ntmps59
      go_wp2_with fail
      go_ret
      exact ⟨by rw [HB.out]; rfl, rfl⟩
    by_cases h7 : r = 45
    · subst h7
      have HB : Hid (signB 45 = false) := Lib.hid (by decide)
      go_enter Try.func59, Try.ntmps59
      go_wp2_with fail
      go_ret
      exact ⟨by rw [HB.out]; rfl, rfl⟩
    by_cases h8 : r = 65533
    · subst h8
      have HB : Hid (signB 65533 = false) := Lib.hid (by decide)
      go_enter Try.func59, Try.ntmps59
      go_wp2_with fail
      go_ret
      exact ⟨by rw [HB.out]; rfl, rfl⟩
    have e1 : (r == 58) = false := by simpa using h4
    have e2 : (r == 35) = false := by simpa using h5
    have e3 : (r == 43) = false := by simpa using h6
    have e4 : (r == 45) = false := by simpa using h7
    have e5 : (r == 65533) = false := by simpa using h8
    have n1 : (r != 58) = true := by simpa using h4
    have n2 : (r != 35) = true := by simpa using h5
    have n3 : (r != 43) = true := by simpa using h6
    have n4 : (r != 45) = true := by simpa using h7
    have n5 : (r != 65533) = true := by simpa using h8
    by_cases h2 : r < 127
    · have HB : Hid (signB r = true) := Lib.hid (decide_eq_true (by omega))
      clear h4 h5 h6 h7 h8
      go_enter Try.func59, Try.ntmps59
      go_wp2_with fail
      go_ret
      exact ⟨by rw [HB.out]; rfl, rfl⟩
    by_cases h3 : 160 < r
    · have HB : Hid (signB r = true) := Lib.hid (decide_eq_true (by omega))
      clear h4 h5 h6 h7 h8
      go_enter Try.func59, Try.ntmps59
      go_wp2_with fail
      go_ret
      exact ⟨by rw [HB.out]; rfl, rfl⟩
    · have HB : Hid (signB r = false) := Lib.hid (decide_eq_false (by omega))
      clear h4 h5 h6 h7 h8
      go_enter Try.func59, Try.ntmps59
      go_wp2_with fail
      go_ret
      exact ⟨by rw [HB.out]; rfl, rfl⟩
  · have HB : Hid (signB r = false) := Lib.hid (decide_eq_false (by omega))
    go_enter Try.func59, Try.ntmps59
    go_wp2_with fail
    go_ret
    exact ⟨by rw [HB.out]; rfl, rfl⟩
theorem sign_to (b : Bool) (r : Int) (w : World) (h : signB r = b) : Calls Try.prog 52 #[.int .i32 r] w fun e w' => e = .returned (.bool b) ∧ w = w' := h ▸ sign_is r w
theorem rsign_to (b : Bool) (r : Int) (w : World) (h : signB r = b) : Calls Try.prog 59 #[.int .i32 r] w fun e w' => e = .returned (.bool b) ∧ w = w' := h ▸ rsign_is r w
theorem rgo_step {s : BA} {b pos n : Nat} (hp : pos < s.size) : rgo s (b + 1) pos n = if signB (Utf8.decode s pos).1 then rgo s b (pos + (Utf8.decode s pos).2) (n + 1) else false := by
  show (if pos < s.size then _ else _) = _
  rw [if_pos hp]
attribute [local irreducible] signB rgo
theorem below_iter (w : World) (s : BA) (p : Nat) : Below w.heap.size w (w.iter s p) := below1 w _
set_option maxRecDepth 100000 in
theorem right_is (s : BA) (w : World) (hs : s.size ≤ maxLen) :
    Calls Try.prog 34 #[.string s] w fun e w' => e = .returned (.bool (rightS s)) ∧ Below w.heap.size w w' := by
  have hsz : s.size ≤ 9223372036854775807 := by unfold maxLen at hs; omega
  clear hs
  go_enter Try.func34, Try.ntmps34
  go_wp2_with fail
  go_loopw [3] (fun n w' => ∃ (pos b k : Nat), w' = w.iter s pos ∧ n = .int .i64 k ∧ rgo s b pos k = rightS s ∧ s.size ≤ pos + b ∧ k ≤ pos) (fun _ w' => s.size - w'.iterPos w.heap.size)
  case atStart => exact ⟨0, s.size, 0, rfl, rfl, rfl, by omega, by omega⟩
  case round =>
    obtain ⟨pos, b, k, rfl, rfl, hc, hb, hk⟩ := hrel
    by_cases hp : pos < s.size
    · have hnx : ∀ ty, (Instr.next (.pointer (some ⟨w.heap.size, 0, none⟩)) true ty).run Try.prog (w.iter s pos) = _ := fun ty => run_next_any w s pos ty hp
      have hwd := width_pos s pos hp
      cases b with
      | zero => omega
      | succ b =>
        rw [rgo_step hp] at hc
        have HW := Lib.hid (show wrap64 ((k : Int) + 1) = (k : Int) + 1 by unfold wrap64; omega)
        obtain ⟨D, hD⟩ : ∃ D, Utf8.decode s pos = D := ⟨_, rfl⟩
        rw [hD] at hnx hwd hc
        obtain ⟨rr, wd⟩ := D
        dsimp only at hnx hwd hc
        cases hg : signB (rr : Int) with
        | true =>
          rw [if_pos hg] at hc
          have HG := Lib.hid hg
          have HC := Lib.hid hc
          have hw := HW.out
          clear hg hc hD
          go_wp2_with fail
          refine (sign_to true _ _ HG.out).mono ?_
          rintro e w1 ⟨rfl, rfl⟩
          go_wp2_with fail
          go_roundw
          case rel => exact ⟨pos + wd, b, k + 1, rfl, by go_num, HC.out, by omega, by omega⟩
          case measure => simp; omega
        | false =>
          rw [if_neg (by rw [hg]; decide)] at hc
          have HG := Lib.hid hg
          have HC := Lib.hid hc
          clear hg hc hD
          go_wp2_with fail
          refine (sign_to false _ _ HG.out).mono ?_
          rintro e w1 ⟨rfl, rfl⟩
          go_wp2_with fail
          go_ret
          exact ⟨by rw [← HC.out]; rfl, below_iter w s _⟩
    · have hnx : ∀ ty, (Instr.next (.pointer (some ⟨w.heap.size, 0, none⟩)) true ty).run Try.prog (w.iter s pos) = _ := fun ty => run_next_end w s pos ty hp
      rw [rgo_end s b pos k hp] at hc
      by_cases h1 : 1 ≤ k
      · by_cases h2 : k ≤ 16
        · rw [decide_eq_true ⟨h1, h2⟩] at hc
          have HC := Lib.hid hc
          have i1 : (1 : Int) ≤ k := by omega
          have i2 : (k : Int) ≤ 16 := by omega
          clear hc h1 h2
          go_wp2_with fail
          go_ret
          exact ⟨by rw [← HC.out]; rfl, below_iter w s _⟩
        · rw [decide_eq_false (by omega)] at hc
          have HC := Lib.hid hc
          have i1 : (1 : Int) ≤ k := by omega
          have i2 : ¬ (k : Int) ≤ 16 := by omega
          clear hc h1 h2
          go_wp2_with fail
          go_ret
          exact ⟨by rw [← HC.out]; rfl, below_iter w s _⟩
      · rw [decide_eq_false (by omega)] at hc
        have HC := Lib.hid hc
        have i1 : ¬ (1 : Int) ≤ k := by omega
        clear hc h1
        go_wp2_with fail
        go_ret
        exact ⟨by rw [← HC.out]; rfl, below_iter w s _⟩
set_option maxRecDepth 100000 in
theorem rright_is (s : BA) (w : World) (hs : s.size ≤ maxLen) :
    Calls Try.prog 46 #[.string s] w fun e w' => e = .returned (.bool (rightS s)) ∧ Below w.heap.size w w' := by
  have hsz : s.size ≤ 9223372036854775807 := by unfold maxLen at hs; omega
  clear hs
  go_enter Try.func46, Try.ntmps46
  go_wp2_with fail
  go_loopw [3] (fun n w' => ∃ (pos b k : Nat), w' = w.iter s pos ∧ n = .int .i64 k ∧ rgo s b pos k = rightS s ∧ s.size ≤ pos + b ∧ k ≤ pos) (fun _ w' => s.size - w'.iterPos w.heap.size)
  case atStart => exact ⟨0, s.size, 0, rfl, rfl, rfl, by omega, by omega⟩
  case round =>
    obtain ⟨pos, b, k, rfl, rfl, hc, hb, hk⟩ := hrel
    by_cases hp : pos < s.size
    · have hnx : ∀ ty, (Instr.next (.pointer (some ⟨w.heap.size, 0, none⟩)) true ty).run Try.prog (w.iter s pos) = _ := fun ty => run_next_any w s pos ty hp
      have hwd := width_pos s pos hp
      cases b with
      | zero => omega
      | succ b =>
        rw [rgo_step hp] at hc
        have HW := Lib.hid (show wrap64 ((k : Int) + 1) = (k : Int) + 1 by unfold wrap64; omega)
        obtain ⟨D, hD⟩ : ∃ D, Utf8.decode s pos = D := ⟨_, rfl⟩
        rw [hD] at hnx hwd hc
        obtain ⟨rr, wd⟩ := D
        dsimp only at hnx hwd hc
        cases hg : signB (rr : Int) with
        | true =>
          rw [if_pos hg] at hc
          have HG := Lib.hid hg
          have HC := Lib.hid hc
          have hw := HW.out
          clear hg hc hD
          go_wp2_with fail
          refine (rsign_to true _ _ HG.out).mono ?_
          rintro e w1 ⟨rfl, rfl⟩
          go_wp2_with fail
          go_roundw
          case rel => exact ⟨pos + wd, b, k + 1, rfl, by go_num, HC.out, by omega, by omega⟩
          case measure => simp; omega
        | false =>
          rw [if_neg (by rw [hg]; decide)] at hc
          have HG := Lib.hid hg
          have HC := Lib.hid hc
          clear hg hc hD
          go_wp2_with fail
          refine (rsign_to false _ _ HG.out).mono ?_
          rintro e w1 ⟨rfl, rfl⟩
          go_wp2_with fail
          go_ret
          exact ⟨by rw [← HC.out]; rfl, below_iter w s _⟩
    · have hnx : ∀ ty, (Instr.next (.pointer (some ⟨w.heap.size, 0, none⟩)) true ty).run Try.prog (w.iter s pos) = _ := fun ty => run_next_end w s pos ty hp
      rw [rgo_end s b pos k hp] at hc
      by_cases h1 : 1 ≤ k
      · by_cases h2 : k ≤ 16
        · rw [decide_eq_true ⟨h1, h2⟩] at hc
          have HC := Lib.hid hc
          have i1 : (1 : Int) ≤ k := by omega
          have i2 : (k : Int) ≤ 16 := by omega
          clear hc h1 h2
          go_wp2_with fail
          go_ret
          exact ⟨by rw [← HC.out]; rfl, below_iter w s _⟩
        · rw [decide_eq_false (by omega)] at hc
          have HC := Lib.hid hc
          have i1 : (1 : Int) ≤ k := by omega
          have i2 : ¬ (k : Int) ≤ 16 := by omega
          clear hc h1 h2
          go_wp2_with fail
          go_ret
          exact ⟨by rw [← HC.out]; rfl, below_iter w s _⟩
      · rw [decide_eq_false (by omega)] at hc
        have HC := Lib.hid hc
        have i1 : ¬ (1 : Int) ≤ k := by omega
        clear hc h1
        go_wp2_with fail
        go_ret
        exact ⟨by rw [← HC.out]; rfl, below_iter w s _⟩
end Go.Proofs.Ytdkcpejlojdijaa
