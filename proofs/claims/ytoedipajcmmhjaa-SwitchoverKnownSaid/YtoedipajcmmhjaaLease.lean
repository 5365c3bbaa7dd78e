/-
  Walks of package lease and of the document's answer for chapter 23: numbers and books.
-/
import Derived.Test.YtoedipajcmmhjaaProg
import Derived.Test.YtoedipajcmmhjaaBase2
import Derived.Test.YtoedipajcmmhjaaRead2
import Derived.Deep.QuietTactic
import Derived.BigQuiet
import Derived.RegionTactic
namespace Go.Proofs.Ytoedipajcmmhjaa
open Go.RowKit

/-- a number from 0 to so much -/
def inB (most n : Int) : Bool := decide (0 ≤ n ∧ n ≤ most)
def inL (most : Int) (l : List Int) : Bool := l.all (inB most)
/-- a row of numbers at the head of a block -/
def NumsAt (w : World) (b : Nat) (l : List Int) : Prop := ∀ i x, l[i]? = some x → w.cell? ⟨b, i, none⟩ = some (.int .i64 x)
theorem NumsAt.below {w w' : World} {b : Nat} {l : List Int} (hb : Below w.heap.size w w') (h : NumsAt w b l) : NumsAt w' b l := fun i x hx => cell_later hb (h i x hx)
theorem nums_lit {w : World} {b : Nat} {t : TypeId} {fr : Nat × Nat} {C : Array Value} (l : List Int) (hC : C.toList = l.map (Value.int .i64)) (hb : w.heap[b]? = some (.cells C t fr)) : NumsAt w b l := by
  intro i x hx
  simp only [World.cell?, hb, ← Array.getElem?_toList, hC, List.getElem?_map, hx]
  rfl
theorem inL_false {most : Int} {l : List Int} {k : Nat} {x : Int} (hx : l[k]? = some x) (h : x < 0 ∨ most < x) : inL most l = false := by
  unfold inL
  rw [List.all_eq_false]
  exact ⟨x, List.mem_of_getElem? hx, by simp [inB]; omega⟩
theorem inL_true {most : Int} {l : List Int} (h : ∀ (k : Nat) (x : Int), l[k]? = some x → 0 ≤ x ∧ x ≤ most) : inL most l = true := by
  unfold inL
  rw [List.all_eq_true]
  intro x hx
  obtain ⟨k, hk⟩ := List.getElem?_of_mem hx
  simpa [inB] using h k x hk
attribute [local irreducible] inB inL

set_option maxHeartbeats 1000000 in
theorem in_any (most : Int) (l : List Int) (b n cap : Nat) (w : World) (hn : l.length = n) (hnl : n ≤ 10) (hl : NumsAt w b l) :
    Calls Try.prog 33 #[.int .i64 most, .slice (some ⟨b, 0, none⟩) n cap] w fun e w' => e = .returned (.bool (inL most l)) ∧ w = w' := by
  have HN := Lib.hid hn
  have HL := Lib.hid hl
  clear hn hl
  go_enter Try.func33, Try.ntmps33
  go_wp2_with fail
  go_loop [9] (fun i => ∃ k : Nat, k ≤ n ∧ i = .int .i64 k ∧ Hid (∀ j x, j < k → l[j]? = some x → 0 ≤ x ∧ x ≤ most)) (fun i => n - (intOf i).toNat)
  case atStart => exact ⟨0, by omega, rfl, Lib.hid (fun j x h => by omega)⟩
  case round =>
    obtain ⟨k, hk, rfl, hall⟩ := hrel
    by_cases hlt : k < n
    · obtain ⟨x, hx⟩ : ∃ x, l[k]? = some x := ⟨_, List.getElem?_eq_getElem (by rw [HN.out]; exact hlt)⟩
      have z0 := HL.out k x hx
      have d1 : (0 : Int) ≤ k := by omega
      have d2 : (k : Int) < n := by omega
      have HX := Lib.hid hx
      clear hx
      by_cases h1 : x < 0
      · go_wp2_with fail
        go_ret
        exact ⟨ret_bool (inL_false HX.out (.inl h1)).symm, rfl⟩
      by_cases h2 : most < x
      · go_wp2_with fail
        go_ret
        exact ⟨ret_bool (inL_false HX.out (.inr h2)).symm, rfl⟩
      go_wp2_with fail
      go_round
      case rel => exact ⟨k + 1, by omega, by go_num, Lib.hid (fun j y hj hy => by
        rcases Nat.lt_or_ge j k with h | h
        · exact hall.out j y h hy
        · obtain rfl : j = k := by omega
          rw [HX.out] at hy; cases hy; omega)⟩
      case measure => simp [intOf]; omega
    · obtain rfl : k = n := by omega
      go_wp2_with fail
      go_ret
      exact ⟨ret_bool (inL_true (fun j y hy => hall.out j y (by have := (List.getElem?_eq_some_iff.1 hy).1; rw [HN.out] at this; exact this) hy)).symm, rfl⟩
theorem rin_any (n most : Int) (w : World) : Calls Try.prog 40 #[.int .i64 n, .int .i64 most] w fun e w' => e = .returned (.bool (inB most n)) ∧ w = w' := by
  by_cases h1 : 0 ≤ n
  · by_cases h2 : n ≤ most
    · have HB : Hid (inB most n = true) := Lib.hid (by unfold inB; exact decide_eq_true ⟨h1, h2⟩)
      go_enter Try.func40, Try.ntmps40
      go_wp2_with fail
      go_ret
      exact ⟨ret_bool HB.out.symm, rfl⟩
    · have HB : Hid (inB most n = false) := Lib.hid (by unfold inB; exact decide_eq_false (fun h => h2 h.2))
      have hd : decide (n ≤ most) = false := decide_eq_false h2
      go_enter Try.func40, Try.ntmps40
      go_wp2_with fail
      go_ret
      exact ⟨ret_bool HB.out.symm, rfl⟩
  · have HB : Hid (inB most n = false) := Lib.hid (by unfold inB; exact decide_eq_false (fun h => h1 h.1))
    have hd : decide (0 ≤ n) = false := decide_eq_false h1
    go_enter Try.func40, Try.ntmps40
    go_wp2_with fail
    go_ret
    exact ⟨ret_bool HB.out.symm, rfl⟩
end Go.Proofs.Ytoedipajcmmhjaa
