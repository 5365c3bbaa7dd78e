/-
  Walks of the statements CrcBytes and CrcFind of chapter 1.
-/
import Derived.Test.YtegkogbkoealaaaCrcLawsB
namespace Go.Proofs.Ytegkogbkoealaaa
open Go.RowKit
attribute [local irreducible] Crc.it Crc.ah8 Crc.bk8 Crc.run Crc.sum Crc.step Crc.ah Crc.bk Crc.pick Crc.tab Crc.psum Crc.found noughts strOf bytesRow

set_option maxHeartbeats 1000000 in
theorem walk_CrcBytes (a0 : Option Addr) (len0 cap0 : Nat) (z0 : List Int) (w : World) (w0 : IsRow .u8 w a0 len0 cap0 z0) :
    Calls Try.prog 3 #[.slice a0 len0 cap0] w fun e w' => e = .returned (.bool true) ∧ Below w.heap.size w w' := by
  obtain ⟨l, hl, hlm, hby⟩ := w0.bytes
  clear w0
  have hlm2 : (len0 : Int) ≤ 9223372036854775807 := by unfold maxLen at hlm; omega
  by_cases h1 : 3000 < len0
  · go_enter Try.func3, Try.ntmps3
    go_wp2_with (go_at_call 11; refine (works_any _).mono ?_; rintro e w' ⟨rfl, hb⟩)
    go_ret
    exact ⟨rfl, by assumption⟩
  · have HL := Lib.hid hl
    clear hl
    have hs0 := run_str w a0 l len0 cap0 HL.out hby
    have kb := run_byt w
    have hsz : (strOf l).size = len0 := by rw [strOf_size, HL.out]
    go_enter Try.func3, Try.ntmps3
    go_wp2_with fail
    refine (sum_is l _ rfl HL.out hlm (bytes_at_row l hby.1 (heap_new_drew _ _))).mono ?_
    rintro e w1 ⟨rfl, hb1⟩
    have hA := (bytes_at_row l hby.1 (heap_new_drew _ _)).below hb1
    have hb1 := below_on (below1_drew _ _) hb1
    clear kb hs0
    go_wp2_with fail
    refine (refsum_any a0 l len0 cap0 _ HL.out hlm (hby.below hb1)).mono ?_
    rintro e w2 ⟨rfl, hb2⟩
    have hs1 := run_str w2 _ l len0 (grownCap w len0 0 5) HL.out (hA.below hb2)
    have hs2 := run_str w2 a0 l len0 cap0 HL.out (hby.below (below_on hb1 hb2))
    go_wp2_with fail
    refine (works_any _).mono ?_
    rintro e w3 ⟨rfl, hb3⟩
    go_wp2_with fail
    go_ret
    exact ⟨rfl, below_on (below_on hb1 hb2) hb3⟩

theorem i8_wf {a : Int} (h : (Lit.int .i8 a).wf = true) : -128 ≤ a ∧ a ≤ 127 := bounds_i8 h

set_option maxRecDepth 100000 in
set_option maxHeartbeats 1000000 in
theorem walk_CrcFind (a0 a1 a2 a3 : Int) (w : World) (w0 : (Lit.int .u32 a0).wf = true) (w1 : (Lit.int .i8 a1).wf = true) (w2 : (Lit.int .u8 a2).wf = true) (w3 : (Lit.int .u8 a3).wf = true) :
    Calls Try.prog 5 #[.int .u32 a0, .int .i8 a1, .int .u8 a2, .int .u8 a3] w fun e w' => e = .returned (.bool true) ∧ Below w.heap.size w w' := by
  obtain ⟨h1, h2⟩ := i8_wf w1
  by_cases h3 : 60 < a1
  · go_enter Try.func5, Try.ntmps5
    go_wp2_with (go_at_call 11; refine (works_any _).mono ?_; rintro e w' ⟨rfl, hb⟩)
    go_ret
    exact ⟨rfl, by assumption⟩
  · obtain ⟨u, rfl, hu⟩ := u32_nat w0
    obtain ⟨b, rfl, hb⟩ := u8_nat w2
    obtain ⟨m, rfl, hm⟩ := u8_nat w3
    clear w0 w1 w2 w3
    obtain ⟨k, hk, hk2⟩ : ∃ k : Nat, ((m : Int) % 64) = k ∧ k ≤ 63 := ⟨m % 64, by omega, by omega⟩
    go_enter Try.func5, Try.ntmps5
    go_wp2_with fail
    refine (refchange_ex 0 0 b _ k _ rfl (by omega) (by omega) hb (by omega)).mono ?_
    rintro e w1 ⟨⟨v, hv, HV, rfl⟩, hb1⟩
    clear hk HV
    go_wp2_with fail
    have hbW := below_on hb1 (below1 w1 (Obj.cells #[Value.int IntKind.u32 ↑u, Value.int IntKind.u32 ↑v] 24))
    have hc0 : (w1.alloc (Obj.cells #[Value.int IntKind.u32 ↑u, Value.int IntKind.u32 ↑v] 24)).cell? ⟨w1.heap.size, 0, none⟩ = some (.int .u32 u) := by rw [World.cell?_alloc_at _ _ _ _ rfl]; rfl
    have hc1 : (w1.alloc (Obj.cells #[Value.int IntKind.u32 ↑u, Value.int IntKind.u32 ↑v] 24)).cell? ⟨w1.heap.size, 1, none⟩ = some (.int .u32 v) := by rw [World.cell?_alloc_at _ _ _ _ rfl]; rfl
    generalize hW2 : w1.alloc (Obj.cells #[Value.int IntKind.u32 ↑u, Value.int IntKind.u32 ↑v] 24) = w2 at hbW hc0 hc1 ⊢
    clear hW2
    obtain ⟨g, hg⟩ : ∃ g, g = w1.heap.size := ⟨_, rfl⟩
    rw [← hg] at hc0 hc1 ⊢
    clear hg hb1
    go_loopw [34] (fun i wr => ∃ j : Nat, j ≤ 2 ∧ i = .int .i64 j ∧ Below w2.heap.size w2 wr) (fun i _ => 2 - (intOf i).toNat)
    case atStart => exact ⟨0, by omega, rfl, Below.refl _ _⟩
    case round =>
      obtain ⟨j, hj, rfl, hbr⟩ := hrel
      by_cases hlt : j < 2
      · have hcj : ∃ x : Nat, wr.cell? ⟨g, j, none⟩ = some (.int .u32 x) ∧ x < 4294967296 := by
          rcases (show j = 0 ∨ j = 1 by omega) with rfl | rfl
          · exact ⟨u, cell_later hbr hc0, hu⟩
          · exact ⟨v, cell_later hbr hc1, hv⟩
        obtain ⟨x, hx, hxl⟩ := hcj
        obtain ⟨p, q, r, hpq⟩ := asTuple_ex (Crc.found x 0 (max 0 (min a1 65536)).toNat)
        have HPQ := Lib.hid hpq
        clear hpq hc0 hc1
        go_wp2_with fail
        refine (find_any x a1 _ hxl (by omega)).mono ?_
        rintro e w' ⟨rfl, rfl⟩
        rw [HPQ.out]
        go_wp2_with fail
        refine (reffind_int x a1 _ hxl (by omega)).mono ?_
        rintro e w3 ⟨rfl, hb3⟩
        rw [HPQ.out]
        go_wp2_with fail
        go_roundw
        case rel => exact ⟨j + 1, by omega, by go_num, below_on hbr hb3⟩
        case measure => simp [intOf]; omega
      · obtain rfl : j = 2 := by omega
        go_wp2_with fail
        refine (works_any _).mono ?_
        rintro e w3 ⟨rfl, hb3⟩
        go_wp2_with fail
        go_ret
        exact ⟨rfl, below_on (below_on hbW hbr) hb3⟩
end Go.Proofs.Ytegkogbkoealaaa
