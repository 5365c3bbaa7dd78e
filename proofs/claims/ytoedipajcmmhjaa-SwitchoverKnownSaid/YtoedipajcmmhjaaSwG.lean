/-
  The walk of 'works' of chapter 26's statements.
-/
import Derived.Test.YtoedipajcmmhjaaSwE
namespace Go.Proofs.Ytoedipajcmmhjaa
open Go.RowKit

theorem tick_to (r : Int) (s s' : Sw) (g : Nat) (t : Int) (w : World) (hR : tickR s t = (s', r)) (hs : s.ok) (h : SwAt w g s) : Calls Try.prog 9 #[.pointer (some ⟨g, 0, none⟩), .int .i64 t] w fun e w' => e = .returned (.int .u8 r) ∧ SwAt w' g s' ∧ Only g w w' := by
  have := tick_is s g t w hs h
  rw [hR] at this
  exact this
theorem granted_to (r : Int) (s s' : Sw) (g : Nat) (a b : Int) (w : World) (hR : grantR s a b = (s', r)) (h : SwAt w g s) : Calls Try.prog 14 #[.pointer (some ⟨g, 0, none⟩), .agg #[.int .i64 a, .int .i64 b]] w fun e w' => e = .returned (.int .i64 r) ∧ SwAt w' g s' ∧ Only g w w' := by
  have := granted_is s g a b w h
  rw [hR] at this
  exact this
theorem role_to (r : Int) (s : Sw) (g : Nat) (w : World) (hR : rol s.ac = r) (h : SwAt w g s) : Calls Try.prog 8 #[.pointer (some ⟨g, 0, none⟩)] w fun e w' => e = .returned (.int .u8 r) ∧ w = w' := hR ▸ role_is s g w h
theorem holds_to (b : Bool) (s : Sw) (g : Nat) (t : Int) (w : World) (hR : holdR s t = b) (hs : s.ok) (h : SwAt w g s) : Calls Try.prog 13 #[.pointer (some ⟨g, 0, none⟩), .int .i64 t] w fun e w' => e = .returned (.bool b) ∧ Below w.heap.size w w' := hR ▸ holds_sw s g t w hs h
theorem wk_tick (k : Nat) (h : k < 4) : tickR ⟨0, 0, 0, false, 0, k⟩ 1 = (⟨0, 0, 0, false, 0, (k : Int) + 1⟩, 0) := by
  have : ((k : Int) < 4) := by omega
  simp [tickR, standR, this]
theorem wk_tick4 : tickR ⟨0, 0, 0, false, 0, 4⟩ 1 = (⟨0, 0, 0, false, 0, 0⟩, 1) := by simp [tickR, standR]
theorem wk_grant : grantR ⟨0, 0, 0, false, 0, 0⟩ 1 13 = (⟨0, 1, 13, true, 1, 0⟩, 0) := by simp [grantR, takeR, inL, inB]
theorem wk_tm5 : tm 5 = 5 := by decide
theorem wk_t5 : tickR ⟨0, 1, 13, true, 1, 0⟩ 5 = (⟨0, 1, 13, true, 1, 0⟩, 0) := by simp [tickR, leadR, wk_tm5, holdsB]
theorem wk_tm9 : tm 9 = 9 := by decide
theorem wk_t9 : tickR ⟨0, 1, 13, true, 1, 0⟩ 9 = (⟨0, 1, 13, true, 1, 0⟩, 2) := by simp [tickR, leadR, wk_tm9, holdsB]
theorem wk_tm11 : tm 11 = 11 := by decide
theorem wk_h11 : holdR ⟨0, 1, 13, true, 1, 0⟩ 11 = true := by simp [holdR, wk_tm11, holdsB]
theorem wk_tm12 : tm 12 = 12 := by decide
theorem wk_t12 : tickR ⟨0, 1, 13, true, 1, 0⟩ 12 = (⟨0, 1, 13, false, 1, 0⟩, 3) := by simp [tickR, leadR, wk_tm12, holdsB, Sw.back]
theorem wk_ok0 (k : Nat) (h : k ≤ 4) : Sw.ok ⟨0, 0, 0, false, 0, k⟩ := by constructor <;> simp; omega
theorem wk_ok1 (b : Bool) : Sw.ok ⟨0, 1, 13, b, 1, 0⟩ := by constructor <;> simp
attribute [local irreducible] takeR holdsB tm tickR grantR holdR rol
set_option maxHeartbeats 2000000 in
theorem works_any (w : World) : Calls Try.prog 5 #[] w fun e w' => e = .returned (.bool true) ∧ Below w.heap.size w w' := by
  obtain ⟨g, hg⟩ : ∃ g, g = w.heap.size := ⟨_, rfl⟩
  have HG := Lib.hid hg
  go_enter Try.func5, Try.ntmps5
  go_wp2_with fail
  refine (new_one 0 w (.inl rfl)).mono ?_
  rintro e w1 ⟨rfl, hs1, hb1⟩
  rw [← hg] at hs1 ⊢
  clear hg
  have HS := Lib.hid hs1
  have HB := Lib.hid hb1
  clear hs1 hb1
  go_wp2_with fail
  go_loopw [3] (fun i wr => ∃ k : Nat, k ≤ 4 ∧ i = .int .i64 k ∧ SwAt wr g ⟨0, 0, 0, false, 0, k⟩ ∧ Below w.heap.size w wr) (fun i _ => 4 - (intOf i).toNat)
  case atStart => exact ⟨0, by omega, rfl, HS.out, HB.out⟩
  case round =>
    obtain ⟨k, hk, rfl, hs, hb⟩ := hrel
    have HSk := Lib.hid hs
    have HBk := Lib.hid hb
    clear hs hb HS HB
    by_cases hlt : k < 4
    · go_wp2_with fail
      refine (tick_to 0 _ _ g 1 _ (wk_tick k hlt) (wk_ok0 k hk) HSk.out).mono ?_
      rintro e w2 ⟨rfl, hs2, ho2⟩
      have HS2 := Lib.hid hs2
      have HB2 := Lib.hid (Only.below HBk.out (by have := HG.out; omega) HBk.out.size ho2)
      clear hs2 ho2
      go_wp2_with fail
      go_roundw
      case rel => exact ⟨k + 1, by omega, by go_num, HS2.out, HB2.out⟩
      case measure => simp [intOf]; omega
    · obtain rfl : k = 4 := by omega
      go_wp2_with fail
      refine (tick_to 1 _ _ g 1 _ wk_tick4 (wk_ok0 4 hk) HSk.out).mono ?_
      rintro e w2 ⟨rfl, hs2, ho2⟩
      have HS2 := Lib.hid hs2
      have HB2 := Lib.hid (Only.below HBk.out (by have := HG.out; omega) HBk.out.size ho2)
      clear hs2 ho2
      go_wp2_with fail
      refine (granted_to 0 _ _ g 1 13 _ wk_grant HS2.out).mono ?_
      rintro e w3 ⟨rfl, hs3, ho3⟩
      have HS3 := Lib.hid hs3
      have HB3 := Lib.hid (Only.below HB2.out (by have := HG.out; omega) HB2.out.size ho3)
      clear hs3 ho3
      go_wp2_with fail
      refine (role_to 1 _ g _ (by unfold rol; rfl) HS3.out).mono ?_
      rintro e w4 ⟨rfl, rfl⟩
      go_wp2_with fail
      refine (tick_to 0 _ _ g 5 _ wk_t5 (wk_ok1 _) HS3.out).mono ?_
      rintro e w4 ⟨rfl, hs4, ho4⟩
      have HS4 := Lib.hid hs4
      have HB4 := Lib.hid (Only.below HB3.out (by have := HG.out; omega) HB3.out.size ho4)
      clear hs4 ho4
      go_wp2_with fail
      refine (tick_to 2 _ _ g 9 _ wk_t9 (wk_ok1 _) HS4.out).mono ?_
      rintro e w5 ⟨rfl, hs5, ho5⟩
      have HS5 := Lib.hid hs5
      have HB5 := Lib.hid (Only.below HB4.out (by have := HG.out; omega) HB4.out.size ho5)
      clear hs5 ho5
      go_wp2_with fail
      refine (holds_to true _ g 11 _ wk_h11 (wk_ok1 _) HS5.out).mono ?_
      rintro e w6 ⟨rfl, hb6⟩
      have HS6 := Lib.hid (HS5.out.below hb6)
      have HB6 := Lib.hid (below_on HB5.out hb6)
      clear hb6
      go_wp2_with fail
      refine (tick_to 3 _ _ g 12 _ wk_t12 (wk_ok1 _) HS6.out).mono ?_
      rintro e w7 ⟨rfl, hs7, ho7⟩
      have HS7 := Lib.hid hs7
      have HB7 := Lib.hid (Only.below HB6.out (by have := HG.out; omega) HB6.out.size ho7)
      clear hs7 ho7
      go_wp2_with fail
      refine (role_to 0 _ g _ (by unfold rol; rfl) HS7.out).mono ?_
      rintro e w8 ⟨rfl, rfl⟩
      go_wp2_with fail
      refine (epoch_is _ g _ HS7.out).mono ?_
      rintro e w8 ⟨rfl, rfl⟩
      go_wp2_with fail
      go_ret
      exact ⟨rfl, HB7.out⟩
end Go.Proofs.Ytoedipajcmmhjaa
