/-
  Walks: SameTexts of the kit of the statements, of two rows that hold the same.
-/
import Derived.Test.YtififkielmddpaaMA
import Derived.Deep.QuietTactic
import Derived.BigQuiet
namespace Go.Proofs.Ytififkielmddpaa
open Go.RowKit
set_option maxRecDepth 100000
set_option maxHeartbeats 400000 in
theorem sametexts_to (x1 : Option Addr) (m c1 : Nat) (l : List BA) (x2 : Option Addr) (c2 : Nat) (w : World) (hn : l.length = m) (hm : m ≤ 9223372036854775807) (hr1 : RowAt 1 strC w x1 l) (hr2 : RowAt 1 strC w x2 l) :
    Calls Try.prog 32 #[.slice x1 m c1, .slice x2 m c2] w fun e w' => e = .returned (.bool true) ∧ Below w.heap.size w w' := by
  have N1 := Lib.hid hn
  have R1 := Lib.hid hr1
  have R2 := Lib.hid hr2
  clear hr1 hr2 hn
  go_enter Try.func32, Try.ntmps32
  go_wp2_with fail
  go_loopg [5] m (fun g i wr => ∃ k : Nat, k + g = m ∧ i = .int .i64 (k : Int) ∧ Below w.heap.size w wr)
  case atStart => exact ⟨0, by omega, rfl, Below.refl _ _⟩
  case round =>
    obtain ⟨k, hk, rfl, hb⟩ := hrel
    have HB := Lib.hid hb
    have HK := Lib.hid hk
    clear hb
    by_cases hlt : k < m
    · obtain ⟨y, hy⟩ : ∃ y, l[k]? = some y := ⟨_, List.getElem?_eq_getElem (by rw [N1.out]; exact hlt)⟩
      rcases R1.out.below HB.out with hnil | ⟨b1, o1, rfl, hc1⟩
      · rw [hnil] at hy; simp at hy
      rcases R2.out.below HB.out with hnil | ⟨b2, o2, rfl, hc2⟩
      · rw [hnil] at hy; simp at hy
      have z1 := hc1 k _ hy 0 _ rfl
      have z2 := hc2 k _ hy 0 _ rfl
      rw [Nat.add_zero, Nat.mul_one] at z1 z2
      have d1 : (0 : Int) ≤ k := by omega
      have d2 : (k : Int) < m := by omega
      have e1 : wrap64 ((k : Int) + 1) = (k : Int) + 1 := by unfold wrap64; omega
      clear hc1 hc2 hy hk
      go_wp2_with fail
      go_quiet (fail)
      have HB2 := Lib.hid (below_drewN HB.out nq)
      go_wp2_with fail
      go_roundg (m - (k + 1))
      case rel => exact ⟨k + 1, by have := HK.out; omega, by go_num, HB2.out⟩
      case measure => have := HK.out; omega
    · have hkm : m = k := by omega
      subst hkm
      go_wp2_with fail
      go_ret
      exact ⟨rfl, HB.out⟩
end Go.Proofs.Ytififkielmddpaa
