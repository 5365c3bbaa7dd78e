/-
  Walks of the statements CrcBytes, CrcChange, CrcOrders of chapter 1.
-/
import Derived.Test.YtegkogbkoealaaaCrcWorks
namespace Go.Proofs.Ytegkogbkoealaaa
open Go.RowKit

theorem u8_nat {a : Int} (h : (Lit.int .u8 a).wf = true) : ∃ n : Nat, a = n ∧ n < 256 := by have := bounds_u8 h; exact ⟨a.toNat, by omega, by omega⟩
theorem u16_nat {a : Int} (h : (Lit.int .u16 a).wf = true) : ∃ n : Nat, a = n ∧ n < 65536 := by have := bounds_u16 h; exact ⟨a.toNat, by omega, by omega⟩
theorem u32_nat {a : Int} (h : (Lit.int .u32 a).wf = true) : ∃ n : Nat, a = n ∧ n < 4294967296 := by have := bounds_u32 h; exact ⟨a.toNat, by omega, by omega⟩

attribute [local irreducible] Crc.it Crc.ah8 Crc.bk8 Crc.run Crc.sum Crc.step Crc.ah Crc.bk Crc.pick Crc.tab Crc.psum Crc.found noughts
theorem change_no' (s a b : Int) (m : Int) (w : World) (hm : m < 0 ∨ 65536 < m) :
    Calls Try.prog 14 #[.int .u32 s, .int .u8 a, .int .u8 b, .int .i64 m] w fun e w' => e = .returned (.tuple #[.int .u32 0, .bool false]) ∧ w = w' := change_no s a b m w hm

set_option maxHeartbeats 400000 in
theorem walk_CrcChange (a0 a1 a2 a3 : Int) (w : World) (w0 : (Lit.int .u32 a0).wf = true) (w1 : (Lit.int .u8 a1).wf = true) (w2 : (Lit.int .u8 a2).wf = true) (w3 : (Lit.int .i64 a3).wf = true) :
    Calls Try.prog 4 #[.int .u32 a0, .int .u8 a1, .int .u8 a2, .int .i64 a3] w fun e w' => e = .returned (.bool true) ∧ Below w.heap.size w w' := by
  by_cases h1 : 500 < a3
  · by_cases h2 : a3 ≤ 65536
    · go_enter Try.func4, Try.ntmps4
      go_wp2_with (go_at_call 11; refine (works_any _).mono ?_; rintro e w' ⟨rfl, hb⟩)
      go_ret
      exact ⟨rfl, by assumption⟩
    · go_enter Try.func4, Try.ntmps4
      go_wp2_with fail
      refine (change_no _ _ _ _ _ (.inr (by omega))).mono ?_
      rintro e w' ⟨rfl, rfl⟩
      go_wp2_with fail
      refine (refchange_no _ _ _ _ _ (.inr (by omega))).mono ?_
      rintro e w' ⟨rfl, rfl⟩
      go_wp2_with fail
      refine (works_any _).mono ?_
      rintro e w' ⟨rfl, hb⟩
      go_wp2_with fail
      go_ret
      exact ⟨rfl, hb⟩
  · by_cases h2 : a3 < 0
    · go_enter Try.func4, Try.ntmps4
      go_wp2_with fail
      refine (change_no _ _ _ _ _ (.inl (by omega))).mono ?_
      rintro e w' ⟨rfl, rfl⟩
      go_wp2_with fail
      refine (refchange_no _ _ _ _ _ (.inl (by omega))).mono ?_
      rintro e w' ⟨rfl, rfl⟩
      go_wp2_with fail
      refine (works_any _).mono ?_
      rintro e w' ⟨rfl, hb⟩
      go_wp2_with fail
      go_ret
      exact ⟨rfl, hb⟩
    · obtain ⟨s, rfl, hs⟩ := u32_nat w0
      obtain ⟨a, rfl, ha⟩ := u8_nat w1
      obtain ⟨b, rfl, hb⟩ := u8_nat w2
      obtain ⟨m, rfl⟩ := Int.eq_ofNat_of_zero_le (show 0 ≤ a3 by omega)
      clear w0 w1 w2 w3
      go_enter Try.func4, Try.ntmps4
      go_wp2_with fail
      refine (change_any s a b m _ hs ha hb (by omega)).mono ?_
      rintro e w' ⟨rfl, rfl⟩
      go_wp2_with fail
      refine (refchange_any s a b m _ hs ha hb (by omega)).mono ?_
      rintro e w1 ⟨rfl, hb1⟩
      go_wp2_with fail
      refine (works_any _).mono ?_
      rintro e w2 ⟨rfl, hb2⟩
      go_wp2_with fail
      go_ret
      exact ⟨rfl, below_on hb1 hb2⟩
end Go.Proofs.Ytegkogbkoealaaa
