/-
  The sets' contracts: Has, one, With, First, Of, and the document's Of.
-/
import Derived.Test.YtififkielmddpaaPwF
import Derived.Test.YtififkielmddpaaBitsP
import Derived.Test.YtififkielmddpaaRef07
import Derived.Test.YtififkielmddpaaMA
import Derived.Deep.LoopGhost
import Derived.Deep.QuietTactic
import Derived.BigQuiet
namespace Go.Proofs.Ytififkielmddpaa
open Go.RowKit
set_option maxRecDepth 100000
attribute [local irreducible] pw hasBit withBit woBit mems ofN withI anyN anyAt anyR
theorem bhas_out (s n : Int) (w : World) (hn : n < 0 ∨ 63 < n) :
    Calls Try.prog 50 #[.int .u64 s, .int .i64 n] w fun e w' => e = .returned (.bool false) ∧ w = w' := by
  rcases hn with h | h
  · go_enter Try.func50, Try.ntmps50
    go_wp2_with fail
    go_ret
    exact ⟨rfl, rfl⟩
  · have h0 : 0 ≤ n := by omega
    go_enter Try.func50, Try.ntmps50
    go_wp2_with fail
    go_ret
    exact ⟨rfl, rfl⟩
theorem bhas_any (s n : Nat) (w : World) (hn : n ≤ 63) (hs : s < 18446744073709551616) :
    Calls Try.prog 50 #[.int .u64 s, .int .i64 n] w fun e w' => e = .returned (.bool (hasBit s n)) ∧ w = w' := by
  have h0 : (0 : Int) ≤ n := by omega
  have HV := Lib.hid (has_form s n hs)
  clear hs
  go_enter Try.func50, Try.ntmps50
  go_wp2_with fail
  go_ret
  exact ⟨ret_bool HV.out, rfl⟩
theorem one_out (n : Int) (w : World) (hn : n < 0 ∨ 63 < n) :
    Calls Try.prog 42 #[.int .i64 n] w fun e w' => e = .returned (.int .u64 0) ∧ w = w' := by
  rcases hn with h | h
  · go_enter Try.func42, Try.ntmps42
    go_wp2_with fail
    go_ret
    exact ⟨rfl, rfl⟩
  · have h0 : 0 ≤ n := by omega
    go_enter Try.func42, Try.ntmps42
    go_wp2_with fail
    go_ret
    exact ⟨rfl, rfl⟩
theorem one_any (n : Nat) (w : World) (hn : n ≤ 63) :
    Calls Try.prog 42 #[.int .i64 n] w fun e w' => e = .returned (.int .u64 (pw n : Int)) ∧ w = w' := by
  have h0 : (0 : Int) ≤ n := by omega
  have h1 : ¬ (64 : Int) ≤ n := by omega
  go_enter Try.func42, Try.ntmps42
  go_wp2_with fail
  go_ret
  exact ⟨ret_u64 (one_form n hn), rfl⟩
theorem bwith_out (s : Nat) (n : Int) (w : World) (hn : n < 0 ∨ 63 < n) (hs : s < 18446744073709551616) :
    Calls Try.prog 24 #[.int .u64 s, .int .i64 n] w fun e w' => e = .returned (.int .u64 s) ∧ w = w' := by
  have h := or_zero64 s hs
  go_enter Try.func24, Try.ntmps24
  go_wp2_with fail
  refine (one_out n _ hn).mono ?_
  rintro e w' ⟨rfl, rfl⟩
  go_wp2_with fail
  go_ret
  exact ⟨rfl, rfl⟩
theorem bwith_any (s n : Nat) (w : World) (hn : n ≤ 63) (hs : s < 18446744073709551616) :
    Calls Try.prog 24 #[.int .u64 s, .int .i64 n] w fun e w' => e = .returned (.int .u64 ((withBit s n : Nat) : Int)) ∧ w = w' := by
  have HV := Lib.hid (or_form s n hn hs)
  clear hs
  go_enter Try.func24, Try.ntmps24
  go_wp2_with fail
  refine (one_any n _ hn).mono ?_
  rintro e w' ⟨rfl, rfl⟩
  go_wp2_with fail
  go_ret
  exact ⟨ret_u64 HV.out, rfl⟩
theorem bfirst_any (n : Int) (T : Nat) (w : World) (hT : (T : Int) = max 0 (min n 64)) :
    Calls Try.prog 21 #[.int .i64 n] w fun e w' => e = .returned (.int .u64 ((pw T - 1 : Nat) : Int)) ∧ w = w' := by
  rcases (show n ≤ 0 ∨ (0 < n ∧ n < 64) ∨ 64 ≤ n by omega) with h | ⟨h, h2⟩ | h
  · obtain rfl : T = 0 := by omega
    clear hT
    go_enter Try.func21, Try.ntmps21
    go_wp2_with fail
    go_ret
    exact ⟨by rw [pw_zero]; rfl, rfl⟩
  · obtain rfl : n = (T : Int) := by omega
    have h3 : (0 : Int) ≤ T := by omega
    have HV := Lib.hid (first_form T (by omega))
    have HW := Lib.hid (one_form T (by omega))
    clear hT
    go_enter Try.func21, Try.ntmps21
    go_wp2_with fail
    go_ret
    refine ⟨?_, rfl⟩
    rw [← HV.out, ← HW.out]; rfl
  · obtain rfl : T = 64 := by omega
    clear hT
    have h3 : ¬ n ≤ 0 := by omega
    go_enter Try.func21, Try.ntmps21
    go_wp2_with fail
    go_ret
    exact ⟨by rw [show pw 64 = 18446744073709551616 by rw [pw_eq]]; rfl, rfl⟩
theorem withI_in (s : Nat) (n : Int) (h : 0 ≤ n ∧ n ≤ 63) : withI s n = withBit s n.toNat := by unfold withI; rw [if_pos h]
theorem withI_out (s : Nat) (n : Int) (h : n < 0 ∨ 63 < n) : withI s n = s := by unfold withI; rw [if_neg (by omega)]
theorem withI_any (s : Nat) (n : Int) (w : World) (hs : s < 18446744073709551616) :
    Calls Try.prog 47 #[.int .u64 s, .int .i64 n] w fun e w' => e = .returned (.int .u64 ((withI s n : Nat) : Int)) ∧ w = w' := by
  by_cases h : 0 ≤ n ∧ n ≤ 63
  · rw [withI_in s n h]
    obtain ⟨m, rfl⟩ : ∃ m : Nat, n = m := ⟨n.toNat, by omega⟩
    rw [show (m : Int).toNat = m by omega]
    exact with_any s m w (by omega) hs
  · rw [withI_out s n (by omega)]
    exact with_out s n w (by omega)
/-- the bits of one number, any number -/
def oneI (n : Int) : Nat := if 0 ≤ n ∧ n ≤ 63 then pw n.toNat else 0
theorem oneI_any (n : Int) (w : World) :
    Calls Try.prog 42 #[.int .i64 n] w fun e w' => e = .returned (.int .u64 ((oneI n : Nat) : Int)) ∧ w = w' := by
  by_cases h : 0 ≤ n ∧ n ≤ 63
  · rw [oneI, if_pos h]
    obtain ⟨m, rfl⟩ : ∃ m : Nat, n = m := ⟨n.toNat, by omega⟩
    rw [show (m : Int).toNat = m by omega]
    exact one_any m w (by omega)
  · rw [oneI, if_neg h]
    exact one_out n w (by omega)
theorem oneI_form (s : Nat) (n : Int) (hs : s < 18446744073709551616) : bits .or .u64 (s : Int) ((oneI n : Nat) : Int) = ((withI s n : Nat) : Int) := by
  by_cases h : 0 ≤ n ∧ n ≤ 63
  · rw [oneI, if_pos h, withI_in s n h]
    exact or_form s n.toNat (by omega) hs
  · rw [oneI, if_neg h, withI_out s n (by omega)]
    exact or_zero64 s hs
attribute [local irreducible] oneI
theorem take_get {l : List Int} {k : Nat} {x : Int} (h : l[k]? = some x) : l.take (k + 1) = l.take k ++ [x] := by
  rw [List.take_add_one, h]; rfl
theorem of_any (a : Option Addr) (n cap : Nat) (l : List Int) (w : World) (hn : l.length = n) (hm : n ≤ maxLen) (hl : RowAt 1 intC w a l) :
    Calls Try.prog 22 #[.slice a n cap] w fun e w' => e = .returned (.int .u64 ((ofN l : Nat) : Int)) ∧ w = w' := by
  have HN := Lib.hid hn
  have hm' : (n : Int) ≤ 9223372036854775807 := by unfold maxLen at hm; omega
  clear hn hm
  go_enter Try.func22, Try.ntmps22
  go_wp2
  go_loop [3, 8] (fun s i => ∃ k x : Nat, k ≤ n ∧ i = .int .i64 k ∧ x = ofN (l.take k) ∧ s = .int .u64 x) (fun _ i => n - (intOf i).toNat)
  case atStart => exact ⟨0, 0, by omega, rfl, by rw [List.take_zero]; unfold ofN; rfl, rfl⟩
  case round =>
    obtain ⟨k, x, hk, rfl, hx, rfl⟩ := hrel
    have HX := Lib.hid hx
    by_cases hlt : k < n
    · obtain ⟨c, hc⟩ : ∃ c, l[k]? = some c := ⟨_, List.getElem?_eq_getElem (by rw [HN.out]; exact hlt)⟩
      rcases hl with hnil | ⟨b, off, rfl, hcell⟩
      · rw [hnil] at hc; simp at hc
      have z := hcell k c hc 0 _ rfl
      rw [Nat.add_zero, Nat.mul_one] at z
      have hxl : x < 18446744073709551616 := by rw [hx]; exact ofN_lt _
      have HF := Lib.hid (oneI_form x c hxl)
      have HT : Hid (withI x c = ofN (l.take (k + 1))) := Lib.hid (by rw [take_get hc, ofN_snoc, hx])
      clear hx hc hcell
      go_wp2_with fail
      refine (oneI_any c _).mono ?_
      rintro e w' ⟨rfl, rfl⟩
      go_wp2_with fail
      go_round
      case rel => exact ⟨k + 1, withI x c, by omega, by go_num, HT.out, by rw [← HF.out]⟩
      case measure => simp [intOf]; omega
    · obtain rfl : k = n := by omega
      clear hx
      go_wp2_with fail
      go_ret
      refine ⟨?_, rfl⟩
      rw [HX.out, ← HN.out, List.take_length]; rfl
theorem rof_any (a : Option Addr) (n cap : Nat) (l : List Int) (w : World) (hn : l.length = n) (hm : n ≤ maxLen) (hl : RowAt 1 intC w a l) :
    Calls Try.prog 29 #[.slice a n cap] w fun e w' => e = .returned (.int .u64 ((ofN l : Nat) : Int)) ∧ w = w' := by
  have HN := Lib.hid hn
  have hm' : (n : Int) ≤ 9223372036854775807 := by unfold maxLen at hm; omega
  clear hn hm
  go_enter Try.func29, Try.ntmps29
  go_wp2
  go_loop [3, 4] (fun s i => ∃ k x : Nat, k ≤ n ∧ i = .int .i64 k ∧ x = ofN (l.take k) ∧ s = .int .u64 x) (fun _ i => n - (intOf i).toNat)
  case atStart => exact ⟨0, 0, by omega, rfl, by rw [List.take_zero]; unfold ofN; rfl, rfl⟩
  case round =>
    obtain ⟨k, x, hk, rfl, hx, rfl⟩ := hrel
    have HX := Lib.hid hx
    by_cases hlt : k < n
    · obtain ⟨c, hc⟩ : ∃ c, l[k]? = some c := ⟨_, List.getElem?_eq_getElem (by rw [HN.out]; exact hlt)⟩
      rcases hl with hnil | ⟨b, off, rfl, hcell⟩
      · rw [hnil] at hc; simp at hc
      have z := hcell k c hc 0 _ rfl
      rw [Nat.add_zero, Nat.mul_one] at z
      have hxl : x < 18446744073709551616 := by rw [hx]; exact ofN_lt _
      have HT : Hid (withI x c = ofN (l.take (k + 1))) := Lib.hid (by rw [take_get hc, ofN_snoc, hx])
      clear hx hc hcell
      go_wp2_with fail
      refine (withI_any x c _ hxl).mono ?_
      rintro e w' ⟨rfl, rfl⟩
      go_wp2_with fail
      go_round
      case rel => exact ⟨k + 1, withI x c, by omega, by go_num, HT.out, rfl⟩
      case measure => simp [intOf]; omega
    · obtain rfl : k = n := by omega
      clear hx
      go_wp2_with fail
      go_ret
      refine ⟨?_, rfl⟩
      rw [HX.out, ← HN.out, List.take_length]; rfl
theorem bwithI_any (x : Nat) (n : Int) (w : World) (hx : x < 18446744073709551616) :
    Calls Try.prog 24 #[.int .u64 x, .int .i64 n] w fun e w' => e = .returned (.int .u64 ((withI x n : Nat) : Int)) ∧ w = w' := by
  by_cases h : 0 ≤ n ∧ n ≤ 63
  · rw [withI_in x n h]
    obtain ⟨m, rfl⟩ : ∃ m : Nat, n = m := ⟨n.toNat, by omega⟩
    rw [show (m : Int).toNat = m by omega]
    exact bwith_any x m w (by omega) hx
  · rw [withI_out x n (by omega)]
    exact bwith_out x n w (by omega) hx
end Go.Proofs.Ytififkielmddpaa
