/-
  Walks: SameInts of the kit of the statements.
-/
import Derived.Test.YtdkcpejlojdijaaToH
namespace Go.Proofs.Ytdkcpejlojdijaa
open Go.RowKit

set_option maxRecDepth 100000 in
set_option maxHeartbeats 2000000 in
theorem sameints_is (x1 : Option Addr) (m1 c1 : Nat) (l1 : List Int) (x2 : Option Addr) (m2 c2 : Nat) (l2 : List Int) (w : World) (hn1 : l1.length = m1) (hn2 : l2.length = m2) (hm : m1 ≤ 9223372036854775807) (hr1 : RowAt 1 intC w x1 l1) (hr2 : RowAt 1 intC w x2 l2) :
    Calls Try.prog 13 #[.slice x1 m1 c1, .slice x2 m2 c2] w fun e w' => e = .returned (.bool (decide (l1 = l2))) ∧ Below w.heap.size w w' := by
  have N1 := Lib.hid hn1
  have N2 := Lib.hid hn2
  have R1 := Lib.hid hr1
  have R2 := Lib.hid hr2
  clear hr1 hr2
  by_cases hmm : m1 = m2
  case neg =>
    have HF : Hid (decide (l1 = l2) = false) := Lib.hid (decide_eq_false (fun h => hmm (by rw [← hn1, ← hn2, h])))
    have d1 : ((m1 : Int) == (m2 : Int)) = false := by simp; omega
    have d2 : ((m1 : Int) != (m2 : Int)) = true := by simp; omega
    have d3 : (m1 == m2) = false := by simpa using hmm
    clear hn1 hn2 hmm
    go_enter Try.func13, Try.ntmps13
    go_wp2_with fail
    go_ret
    exact ⟨by rw [HF.out]; rfl, Below.refl _ _⟩
  subst hmm
  clear hn1 hn2
  go_enter Try.func13, Try.ntmps13
  go_wp2_with fail
  go_loopg [5] m1 (fun g i wr => ∃ k : Nat, k + g = m1 ∧ i = .int .i64 (k : Int) ∧ l1.take k = l2.take k ∧ Below w.heap.size w wr)
  case atStart => exact ⟨0, by omega, rfl, rfl, Below.refl _ _⟩
  case round =>
    obtain ⟨k, hk, rfl, ht, hb⟩ := hrel
    have HT := Lib.hid ht
    have HB := Lib.hid hb
    have HK := Lib.hid hk
    clear ht hb
    by_cases hlt : k < m1
    · obtain ⟨y, hy⟩ : ∃ y, l1[k]? = some y := ⟨_, List.getElem?_eq_getElem (by rw [N1.out]; exact hlt)⟩
      obtain ⟨z, hz⟩ : ∃ z, l2[k]? = some z := ⟨_, List.getElem?_eq_getElem (by rw [N2.out]; exact hlt)⟩
      rcases R1.out.below HB.out with hnil | ⟨b1, o1, rfl, hc1⟩
      · rw [hnil] at hy; simp at hy
      rcases R2.out.below HB.out with hnil | ⟨b2, o2, rfl, hc2⟩
      · rw [hnil] at hz; simp at hz
      have z1 := hc1 k _ hy 0 _ rfl
      have z2 := hc2 k _ hz 0 _ rfl
      rw [Nat.add_zero, Nat.mul_one] at z1 z2
      have HY := Lib.hid hy
      have HZ := Lib.hid hz
      have d1 : (0 : Int) ≤ k := by omega
      have d2 : (k : Int) < m1 := by omega
      have e1 : wrap64 ((k : Int) + 1) = (k : Int) + 1 := by unfold wrap64; omega
      clear hc1 hc2 hy hz hk
      by_cases hyz : y = z
      · have HX : Hid (l1.take (k + 1) = l2.take (k + 1)) := Lib.hid (by rw [List.take_add_one, List.take_add_one, HY.out, HZ.out, HT.out, hyz])
        have q1 : (y == z) = true := by simpa using hyz
        have q2 : (y != z) = false := by simpa using hyz
        clear hyz
        go_wp2_with fail
        go_quiet (fail)
        have HB2 := Lib.hid (below_drewN HB.out nq)
        go_wp2_with fail
        go_roundg (m1 - (k + 1))
        case rel => exact ⟨k + 1, by have := HK.out; omega, by go_num, HX.out, HB2.out⟩
        case measure => have := HK.out; omega
      · have HF : Hid (decide (l1 = l2) = false) := Lib.hid (decide_eq_false (fun h => by
          have h3 := HY.out
          rw [h, HZ.out] at h3
          exact hyz (Option.some.inj h3).symm))
        have q1 : (y == z) = false := by simpa using hyz
        have q2 : (y != z) = true := by simpa using hyz
        clear hyz
        go_wp2_with fail
        go_quiet (fail)
        have HB2 := Lib.hid (below_drewN HB.out nq)
        go_wp2_with fail
        go_ret
        exact ⟨by rw [HF.out]; rfl, HB2.out⟩
    · have hkm : m1 = k := by omega
      subst hkm
      have HF : Hid (decide (l1 = l2) = true) := Lib.hid (decide_eq_true (by have h := HT.out; rwa [List.take_of_length_le (by rw [N1.out]; exact Nat.le_refl _), List.take_of_length_le (by rw [N2.out]; exact Nat.le_refl _)] at h))
      go_wp2_with fail
      go_ret
      exact ⟨by rw [HF.out]; rfl, HB.out⟩
end Go.Proofs.Ytdkcpejlojdijaa
