/-
  Walks of the document's answer for chapter 1: gone and Sum.
-/
import Derived.Test.YtegkogbkoealaaaCrcWalk2
import Derived.Test.YtegkogbkoealaaaCrcRefPlain
namespace Go.Proofs.Ytegkogbkoealaaa
open Go.RowKit
theorem crc_tab_get : ∀ k, k < 8 → #[Value.int IntKind.u32 1996959894, Value.int IntKind.u32 3993919788, Value.int IntKind.u32 124634137, Value.int IntKind.u32 249268274, Value.int IntKind.u32 498536548, Value.int IntKind.u32 997073096, Value.int IntKind.u32 1994146192, Value.int IntKind.u32 3988292384][k]? = some (.int .u32 (Crc.tab.getD k 0 : Nat)) := by
  intro k hk
  match k, hk with
  | 0, _ | 1, _ | 2, _ | 3, _ | 4, _ | 5, _ | 6, _ | 7, _ => rfl
attribute [local irreducible] Crc.it Crc.ah8 Crc.bk8 Crc.run Crc.sum Crc.step Crc.ah Crc.bk Crc.pick Crc.tab

theorem crc_xor8' (a b : Nat) (ha : a < 256) (hb : b < 256) : bits .xor .u8 (a : Int) (b : Int) = ((a ^^^ b : Nat) : Int) := crc_xor8 a b ha hb
theorem crc_bit8 (x k : Nat) (hx : x < 256) : bits .and .u8 ((x : Int) / 2 ^ k) 1 = ((x / 2 ^ k % 2 : Nat) : Int) := by
  have e : (x : Int) / 2 ^ k = ((x / 2 ^ k : Nat) : Int) := by norm_cast
  rw [e, show (1 : Int) = ((1 : Nat) : Int) from rfl, u8_and_nat _ 1 (Nat.lt_of_le_of_lt (Nat.div_le_self _ _) hx) (by omega), Nat.and_one_is_mod]

theorem crc_bit_test (x j : Nat) : ((x : Int) / 2 ^ j % 2 == 1) = decide (x / 2 ^ j % 2 = 1) := by
  have e : (x : Int) / 2 ^ j % 2 = ((x / 2 ^ j % 2 : Nat) : Int) := by norm_cast
  rw [e, Bool.eq_iff_iff]; simp; omega

theorem gone_any (n : Nat) (a : Option Addr) (l : List Nat) (cap : Nat) (w : World) (hn : n < 4294967296) (hm : l.length ≤ maxLen) (h : BytesAt w a l) :
    Calls Try.prog 20 #[.int .u32 n, .slice a l.length cap] w fun e w' => e = .returned (.int .u32 (Crc.run n l)) ∧ Below w.heap.size w w' := by
  unfold maxLen at hm
  go_enter Try.func20, Try.ntmps20
  go_wp2
  have hB := below1 w (Obj.cells #[Value.int IntKind.u32 1996959894, Value.int IntKind.u32 3993919788, Value.int IntKind.u32 124634137, Value.int IntKind.u32 249268274, Value.int IntKind.u32 498536548, Value.int IntKind.u32 997073096, Value.int IntKind.u32 1994146192, Value.int IntKind.u32 3988292384] 24)
  have hT : ∀ k, k < 8 → (w.alloc (Obj.cells #[Value.int IntKind.u32 1996959894, Value.int IntKind.u32 3993919788, Value.int IntKind.u32 124634137, Value.int IntKind.u32 249268274, Value.int IntKind.u32 498536548, Value.int IntKind.u32 997073096, Value.int IntKind.u32 1994146192, Value.int IntKind.u32 3988292384] 24)).cell? ⟨w.heap.size, k, none⟩ = some (.int .u32 (Crc.tab.getD k 0 : Nat)) := by
    intro k hk
    rw [World.cell?_alloc_at _ _ _ _ rfl]
    exact crc_tab_get k hk
  have h1 := h.below hB
  generalize w.alloc (Obj.cells #[Value.int IntKind.u32 1996959894, Value.int IntKind.u32 3993919788, Value.int IntKind.u32 124634137, Value.int IntKind.u32 249268274, Value.int IntKind.u32 498536548, Value.int IntKind.u32 997073096, Value.int IntKind.u32 1994146192, Value.int IntKind.u32 3988292384] 24) = w1 at *
  obtain ⟨hl, hc⟩ := h1
  clear h
  go_loop [0, 6] (fun r i => ∃ k : Nat, k ≤ l.length ∧ i = .int .i64 k ∧ r = .int .u32 (Crc.run n (l.take k))) (fun _ i => l.length - (intOf i).toNat)
  case atStart => exact ⟨0, by omega, rfl, by rw [List.take_zero, Crc.run_nil]⟩
  case round =>
    obtain ⟨k, hk, rfl, rfl⟩ := hrel
    by_cases hlt : k < l.length
    · obtain ⟨b, off, rfl, hcell⟩ := hc.resolve_left (by intro h; rw [h] at hlt; simp at hlt)
      have hck := hcell k hlt
      have hv := getD_lt hl k
      have hr := Crc.run_lt (l.take k) (r := n) hn (fun c hc => hl c (List.mem_of_mem_take hc))
      have hts := take_succ_getD l k hlt
      have HS : Hid (Crc.run n (l.take (k + 1)) = Crc.step (Crc.run n (l.take k)) (l.getD k 0)) := Lib.hid (by rw [hts, Crc.run_snoc])
      generalize Crc.run n (l.take k) = r at *
      generalize l.getD k 0 = c at *
      clear hts hcell hc
      have HX : Hid (bits BinOp.xor IntKind.u8 ((r : Int) % 256) (c : Int) = ((r % 256 ^^^ c : Nat) : Int)) := Lib.hid (by rw [show (r : Int) % 256 = ((r % 256 : Nat) : Int) by omega]; exact crc_xor8 _ _ (by omega) hv)
      have HP : Hid (Crc.pick (r % 256 ^^^ c) (r / 256) 8 = Crc.step r c) := Lib.hid (Crc.pick_step r c hv)
      have hx : r % 256 ^^^ c < 256 := xor_lt8 (by omega) hv
      have HR : Hid ((r : Int) / 256 = ((r / 256 : Nat) : Int)) := Lib.hid (by omega)
      go_wp2
      rw [HX.out, HR.out]
      clear HX HR
      have hq : r / 256 < 4294967296 := by omega
      generalize r % 256 ^^^ c = x at *
      generalize r / 256 = q at *
      go_loop [0, 8] (fun r i => ∃ j : Nat, j ≤ 8 ∧ i = .int .i64 j ∧ r = .int .u32 (Crc.pick x q j)) (fun _ i => 8 - (intOf i).toNat)
      case atStart => exact ⟨0, by omega, rfl, by rw [Crc.pick_zero]⟩
      case round =>
        obtain ⟨j, hj, rfl, rfl⟩ := hrel
        by_cases hlt2 : j < 8
        · have htj := hT j hlt2
          have hpl := Crc.pick_lt x hq j
          have htl := Crc.tab_lt j
          have HS2 : Hid _ := Lib.hid (Crc.pick_succ x q j)
          have HX2 : Hid (bits BinOp.xor IntKind.u32 (Crc.pick x q j : Nat) (Crc.tab.getD j 0 : Nat) = ((Crc.pick x q j ^^^ Crc.tab.getD j 0 : Nat) : Int)) := Lib.hid (crc_xor _ _ hpl htl)
          have hbit := crc_bit8 x j hx
          generalize Crc.pick x q j = y at *
          generalize Crc.tab.getD j 0 = t at *
          clear hT
          go_wp2
          · have hb : ((x : Int) / 2 ^ j % 2 == 1) = true := by assumption
            rw [crc_bit_test] at hb
            have hb := of_decide_eq_true hb
            go_round
            case rel => exact ⟨j + 1, by omega, by go_num, by rw [HX2.out, HS2.out, if_pos hb]⟩
            case measure => simp [intOf]; omega
          · have hb : ((x : Int) / 2 ^ j % 2 == 1) = false := by assumption
            rw [crc_bit_test] at hb
            have hb := of_decide_eq_false hb
            go_round
            case rel => exact ⟨j + 1, by omega, by go_num, by rw [HS2.out, if_neg hb]⟩
            case measure => simp [intOf]; omega
        · obtain rfl : j = 8 := by omega
          go_wp2
          go_round
          case rel => exact ⟨k + 1, by omega, by go_num, by rw [HS.out, HP.out]⟩
          case measure => simp [intOf]; omega
    · obtain rfl : k = l.length := by omega
      go_wp2
      go_ret
      exact ⟨rfl, hB⟩

theorem refsum_any (a : Option Addr) (l : List Nat) (n cap : Nat) (w : World) (hn : l.length = n) (hm : n ≤ maxLen) (hby : BytesAt w a l) :
    Calls Try.prog 13 #[.slice a n cap] w fun e w' => e = .returned (.int .u32 (Crc.sum l)) ∧ Below w.heap.size w w' := by
  subst hn
  go_enter Try.func13, Try.ntmps13
  go_wp2_with (go_at_call 20; refine (gone_any 4294967295 a l cap _ (by omega) hm hby).mono ?_; rintro e w' ⟨rfl, hb⟩)
  go_ret
  exact ⟨ret_u32 (by rw [Crc.sum_eq]; exact crc_not _ (Crc.run_lt l (by omega) hby.1)), by assumption⟩
end Go.Proofs.Ytegkogbkoealaaa
