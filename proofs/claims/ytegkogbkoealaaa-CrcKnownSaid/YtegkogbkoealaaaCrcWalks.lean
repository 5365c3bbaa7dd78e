/-
  Walks of package crc: what each of its functions answers, for every number and every row of bytes. Nothing in memory is turned.
-/
import Derived.Test.YtegkogbkoealaaaProg
import Derived.Test.YtegkogbkoealaaaCrcPlain
import Derived.Test.YtegkogbkoealaaaBase
namespace Go.Proofs.Ytegkogbkoealaaa
open Go.RowKit
attribute [local irreducible] Crc.it Crc.ah8 Crc.bk8 Crc.run Crc.sum Crc.step Crc.ah Crc.bk

theorem crc_and1 (n : Nat) (hn : n < 4294967296) : bits .and .u32 (n : Int) 1 = ((n % 2 : Nat) : Int) := by
  rw [show (1 : Int) = ((1 : Nat) : Int) from rfl, u32_and_nat n 1 hn (by omega), Nat.and_one_is_mod]
theorem crc_poly (n : Nat) (hn : n < 4294967296) : bits .xor .u32 ((n : Int) / 2) 3988292384 = ((n / 2 ^^^ 3988292384 : Nat) : Int) := by
  rw [show (3988292384 : Int) = ((3988292384 : Nat) : Int) from rfl, show (n : Int) / 2 = ((n / 2 : Nat) : Int) by omega, u32_xor_nat _ _ (by omega) (by omega)]

theorem ahead_any (n : Nat) (w : World) (hn : n < 4294967296) :
    Calls Try.prog 19 #[.int .u32 n] w fun e w' => e = .returned (.int .u32 (Crc.ah n)) ∧ w = w' := by
  have h1 := crc_and1 n hn
  have h2 := Lib.hid (crc_poly n hn)
  go_enter Try.func19, Try.ntmps19
  go_wp2
  all_goals go_ret
  · exact ⟨ret_u32 (by rw [h2.out, Crc.ah, if_pos (by omega)]), rfl⟩
  · exact ⟨ret_u32 (by rw [Crc.ah, if_neg (by omega)]; omega), rfl⟩

theorem back_any (n : Nat) (w : World) (hn : n < 4294967296) :
    Calls Try.prog 21 #[.int .u32 n] w fun e w' => e = .returned (.int .u32 (Crc.bk n)) ∧ w = w' := by
  go_enter Try.func21, Try.ntmps21
  go_wp2
  all_goals go_ret
  · refine ⟨ret_u32 ?_, rfl⟩
    have e : bits .xor .u32 (n : Int) 3988292384 = ((n ^^^ 3988292384 : Nat) : Int) := u32_xor_nat n 3988292384 hn (by omega)
    show bits BinOp.or IntKind.u32 (bits BinOp.xor IntKind.u32 (↑n) 3988292384 * 2 % 4294967296) 1 = _
    rw [e, show ((n ^^^ 3988292384 : Nat) : Int) * 2 % 4294967296 = (((n ^^^ 3988292384) * 2 % 4294967296 : Nat) : Int) by omega, show (1 : Int) = ((1 : Nat) : Int) from rfl, u32_or_nat _ _ (by omega) (by omega), Crc.bk, if_pos (by omega)]
    generalize n ^^^ 3988292384 = m
    rw [show m * 2 % 4294967296 = 2 ^ 1 * (m % 2147483648) by omega, ← Nat.two_pow_add_eq_or_of_lt (by omega)]
    omega
  · refine ⟨ret_u32 ?_, rfl⟩
    show ((n : Int) * 2) = _
    rw [Crc.bk, if_neg (by omega)]; omega

theorem eight_ah (x : Int) (n : Nat) (w : World) (hx : x = n) (hn : n < 4294967296) :
    Calls Try.prog 18 #[.int .u32 x, .func (.func 19) #[] #[]] w fun e w' => e = .returned (.int .u32 (Crc.ah8 n)) ∧ w = w' := by
  subst hx
  go_enter Try.func18, Try.ntmps18
  go_wp2
  go_loop [0, 5] (fun r i => ∃ k : Nat, k ≤ 8 ∧ i = .int .i64 k ∧ r = .int .u32 (Crc.it Crc.ah k n)) (fun _ i => 8 - (intOf i).toNat)
  case atStart => exact ⟨0, by omega, rfl, by rw [Crc.it_zero']⟩
  case round =>
    obtain ⟨k, hk, rfl, rfl⟩ := hrel
    have hb := Crc.it_lt (fun _ => Crc.ah_lt) k hn
    by_cases hlt : k < 8
    · go_wp2_with (go_at_call 19; refine (ahead_any _ _ hb).mono ?_; rintro e w' ⟨rfl, rfl⟩)
      go_round
      case rel => exact ⟨k + 1, by omega, by go_num, by rw [Crc.it_succ]⟩
      case measure => simp [intOf]; omega
    · obtain rfl : k = 8 := by omega
      go_wp2
      go_ret
      exact ⟨ret_u32 (by rw [Crc.ah8_eq]), rfl⟩

theorem eight_bk (x : Int) (n : Nat) (w : World) (hx : x = n) (hn : n < 4294967296) :
    Calls Try.prog 18 #[.int .u32 x, .func (.func 21) #[] #[]] w fun e w' => e = .returned (.int .u32 (Crc.bk8 n)) ∧ w = w' := by
  subst hx
  go_enter Try.func18, Try.ntmps18
  go_wp2
  go_loop [0, 5] (fun r i => ∃ k : Nat, k ≤ 8 ∧ i = .int .i64 k ∧ r = .int .u32 (Crc.it Crc.bk k n)) (fun _ i => 8 - (intOf i).toNat)
  case atStart => exact ⟨0, by omega, rfl, by rw [Crc.it_zero']⟩
  case round =>
    obtain ⟨k, hk, rfl, rfl⟩ := hrel
    have hb := Crc.it_lt (fun _ => Crc.bk_lt) k hn
    by_cases hlt : k < 8
    · go_wp2_with (go_at_call 21; refine (back_any _ _ hb).mono ?_; rintro e w' ⟨rfl, rfl⟩)
      go_round
      case rel => exact ⟨k + 1, by omega, by go_num, by rw [Crc.it_succ]⟩
      case measure => simp [intOf]; omega
    · obtain rfl : k = 8 := by omega
      go_wp2
      go_ret
      exact ⟨ret_u32 (by rw [Crc.bk8_eq]), rfl⟩

theorem crc_xor (a b : Nat) (ha : a < 4294967296) (hb : b < 4294967296) : bits .xor .u32 (a : Int) (b : Int) = ((a ^^^ b : Nat) : Int) := u32_xor_nat a b ha hb

theorem crc_not (n : Nat) (h : n < 4294967296) : bits .xor .u32 IntKind.u32.max (n : Int) = ((n ^^^ 4294967295 : Nat) : Int) := by
  rw [show IntKind.u32.max = ((4294967295 : Nat) : Int) by decide, u32_xor_nat _ _ (by omega) h, Nat.xor_comm]

theorem sum_any (a : Option Addr) (l : List Nat) (n cap : Nat) (w : World) (hn : l.length = n) (hm : n ≤ maxLen) (h : BytesAt w a l) :
    Calls Try.prog 12 #[.slice a n cap] w fun e w' => e = .returned (.int .u32 (Crc.sum l)) ∧ w = w' := by
  subst hn
  unfold maxLen at hm
  obtain ⟨hl, hc⟩ := h
  go_enter Try.func12, Try.ntmps12
  go_wp2
  go_loop [3, 8] (fun r i => ∃ k : Nat, k ≤ l.length ∧ i = .int .i64 k ∧ r = .int .u32 (Crc.run 4294967295 (l.take k))) (fun _ i => l.length - (intOf i).toNat)
  case atStart => exact ⟨0, by omega, rfl, by rw [List.take_zero, Crc.run_nil]; rfl⟩
  case round =>
    obtain ⟨k, hk, rfl, rfl⟩ := hrel
    by_cases hlt : k < l.length
    · obtain ⟨b, off, rfl, hcell⟩ := hc.resolve_left (by intro h; rw [h] at hlt; simp at hlt)
      have hck := hcell k hlt
      have hv := getD_lt hl k
      have hr := Crc.run_lt (l.take k) (r := 4294967295) (by omega) (fun c hc => hl c (List.mem_of_mem_take hc))
      have hts := take_succ_getD l k hlt
      have HS : Hid (Crc.run 4294967295 (l.take (k + 1)) = Crc.step (Crc.run 4294967295 (l.take k)) (l.getD k 0)) := Lib.hid (by rw [hts, Crc.run_snoc])
      generalize Crc.run 4294967295 (l.take k) = r at *
      generalize l.getD k 0 = c at *
      have HX : Hid (bits .xor .u32 (r : Int) (c : Int) = ((r ^^^ c : Nat) : Int)) := Lib.hid (crc_xor r c hr (by omega))
      have hxl : r ^^^ c < 4294967296 := Crc.xor_lt32 hr (by omega)
      clear hts hcell
      go_wp2_with (go_at_call 18; refine (eight_ah _ (r ^^^ c) _ HX.out hxl).mono ?_; rintro e w' ⟨rfl, rfl⟩)
      go_round
      case rel => exact ⟨k + 1, by omega, by go_num, by rw [HS.out, Crc.step_eq]⟩
      case measure => simp [intOf]; omega
    · obtain rfl : k = l.length := by omega
      go_wp2
      go_ret
      exact ⟨ret_u32 (by rw [Crc.sum_eq]; exact crc_not _ (Crc.run_lt l (by omega) hl)), rfl⟩
end Go.Proofs.Ytegkogbkoealaaa
