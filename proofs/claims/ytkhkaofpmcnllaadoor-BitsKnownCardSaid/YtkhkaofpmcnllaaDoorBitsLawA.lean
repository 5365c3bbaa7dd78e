/-
  Walks of the statements of chapter 7: BitsOne, BitsOf, BitsFirst, BitsAny.
-/
import Derived.Test.YtkhkaofpmcnllaaDoorBitsX
import Derived.Laws.Closers25b
namespace Go.Proofs.YtkhkaofpmcnllaaDoor
open Go.RowKit
attribute [local irreducible] pw hasBit withBit woBit mems ofN withI anyN anyAt anyR

theorem u64_nat {a : Int} (h : (Lit.int .u64 a).wf = true) : ∃ n : Nat, a = n ∧ n < 18446744073709551616 := by have := bounds_u64 h; exact ⟨a.toNat, by omega, by omega⟩
theorem IsRow.ints {w : World} {a : Option Addr} {len cap : Nat} {zs : List Int} (h : IsRow .i64 w a len cap zs) : ∃ l : List Int, l.length = len ∧ len ≤ maxLen ∧ IntsAt w a l := by
  rcases h with ⟨rfl, rfl, rfl, rfl⟩ | ⟨x, rfl, hl, hm, hz, hcell, hwz⟩
  · exact ⟨[], rfl, Nat.zero_le _, by simp, .inl rfl⟩
  · refine ⟨zs.take len, by simp; omega, Nat.le_trans hl hm, ?_, ?_⟩
    · intro c hc
      have := bounds_i64 (hwz c (List.mem_of_mem_take hc))
      omega
    · rcases Nat.eq_zero_or_pos len with rfl | hpos
      · left; simp
      · right
        obtain ⟨b, off, spot⟩ := x
        have h0 := hcell 0 (by omega)
        have hs : spot = none := by simpa [Addr.add] using World.cell?_spot h0
        subst hs
        refine ⟨b, off, rfl, fun i c hi => ?_⟩
        rw [List.getElem?_take] at hi
        split at hi
        · have hci := hcell i (by have := (List.getElem?_eq_some_iff.1 hi).1; omega)
          rw [List.getD_eq_getElem?_getD, hi] at hci
          rw [Addr.add_lit] at hci
          exact hci
        · cases hi
theorem walk_BitsOne (a0 a1 : Int) (w : World) (w0 : (Lit.int .u64 a0).wf = true) (_ : (Lit.int .i64 a1).wf = true) (ht : TabAt w) :
    Calls Tryd.prog 3 #[.int .u64 a0, .int .i64 a1] w fun e w' => e = .returned (.bool true) ∧ Below w.heap.size w w' := by
  obtain ⟨x, rfl, hx⟩ := u64_nat w0
  clear w0
  by_cases h : 0 ≤ a1 ∧ a1 ≤ 63
  · obtain ⟨n, rfl⟩ : ∃ n : Nat, a1 = n := ⟨a1.toNat, by omega⟩
    have hn : n ≤ 63 := by omega
    clear h
    go_enter Tryd.func3, Tryd.ntmps3
    go_wp2_with fail
    refine (bhas_any x n _ hn hx).mono ?_
    rintro e w1 ⟨rfl, rfl⟩
    go_wp2_with fail
    refine (has_any x n _ hn hx).mono ?_
    rintro e w1 ⟨rfl, rfl⟩
    go_wp2_with fail
    refine (bwith_any x n _ hn hx).mono ?_
    rintro e w1 ⟨rfl, rfl⟩
    go_wp2_with fail
    refine (with_any x n _ hn hx).mono ?_
    rintro e w1 ⟨rfl, rfl⟩
    go_wp2_with fail
    refine (bwo_any x n _ hn hx).mono ?_
    rintro e w1 ⟨rfl, rfl⟩
    go_wp2_with fail
    refine (wo_any x n _ hn hx).mono ?_
    rintro e w1 ⟨rfl, rfl⟩
    go_wp2_with fail
    refine (works_any _ ht).mono ?_
    rintro e w2 ⟨rfl, hb⟩
    go_wp2_with fail
    go_ret
    exact ⟨rfl, hb⟩
  · have hn : a1 < 0 ∨ 63 < a1 := by omega
    clear h
    go_enter Tryd.func3, Tryd.ntmps3
    go_wp2_with fail
    refine (bhas_out x a1 _ hn).mono ?_
    rintro e w1 ⟨rfl, rfl⟩
    go_wp2_with fail
    refine (has_out x a1 _ hn).mono ?_
    rintro e w1 ⟨rfl, rfl⟩
    go_wp2_with fail
    refine (bwith_out x a1 _ hn hx).mono ?_
    rintro e w1 ⟨rfl, rfl⟩
    go_wp2_with fail
    refine (with_out x a1 _ hn).mono ?_
    rintro e w1 ⟨rfl, rfl⟩
    go_wp2_with fail
    refine (bwo_out x a1 _ hn hx).mono ?_
    rintro e w1 ⟨rfl, rfl⟩
    go_wp2_with fail
    refine (wo_out x a1 _ hn).mono ?_
    rintro e w1 ⟨rfl, rfl⟩
    go_wp2_with fail
    refine (works_any _ ht).mono ?_
    rintro e w2 ⟨rfl, hb⟩
    go_wp2_with fail
    go_ret
    exact ⟨rfl, hb⟩
theorem walk_BitsOf (a0 : Option Addr) (len0 cap0 : Nat) (z0 : List Int) (w : World) (w0 : IsRow .i64 w a0 len0 cap0 z0) (ht : TabAt w) :
    Calls Tryd.prog 4 #[.slice a0 len0 cap0] w fun e w' => e = .returned (.bool true) ∧ Below w.heap.size w w' := by
  obtain ⟨l, hn, hm, hl⟩ := w0.ints
  have HN := Lib.hid hn
  have HM := Lib.hid hm
  have hm' : (len0 : Int) ≤ 9223372036854775807 := by unfold maxLen at hm; omega
  clear hn hm w0
  by_cases h : (500 : Int) < len0
  · go_enter Tryd.func4, Tryd.ntmps4
    go_wp2_with fail
    refine (works_any _ ht).mono ?_
    rintro e w2 ⟨rfl, hb⟩
    go_wp2_with fail
    go_ret
    exact ⟨rfl, hb⟩
  · go_enter Tryd.func4, Tryd.ntmps4
    go_wp2_with fail
    refine (of_any a0 len0 cap0 l _ HN.out HM.out hl).mono ?_
    rintro e w1 ⟨rfl, rfl⟩
    go_wp2_with fail
    refine (rof_any a0 len0 cap0 l _ HN.out HM.out hl).mono ?_
    rintro e w1 ⟨rfl, rfl⟩
    go_wp2_with fail
    refine (works_any _ ht).mono ?_
    rintro e w2 ⟨rfl, hb⟩
    go_wp2_with fail
    go_ret
    exact ⟨rfl, hb⟩
theorem walk_BitsFirst (a0 : Int) (w : World) (_ : (Lit.int .i64 a0).wf = true) (ht : TabAt w) :
    Calls Tryd.prog 6 #[.int .i64 a0] w fun e w' => e = .returned (.bool true) ∧ Below w.heap.size w w' := by
  obtain ⟨T, hT⟩ : ∃ T : Nat, (T : Int) = max 0 (min a0 64) := ⟨(max 0 (min a0 64)).toNat, by omega⟩
  have HT := Lib.hid hT
  clear hT
  go_enter Tryd.func6, Tryd.ntmps6
  go_wp2_with fail
  refine (bfirst_any a0 T _ HT.out).mono ?_
  rintro e w1 ⟨rfl, rfl⟩
  go_wp2_with fail
  refine (first_any a0 T _ HT.out).mono ?_
  rintro e w1 ⟨rfl, rfl⟩
  go_wp2_with fail
  refine (works_any _ ht).mono ?_
  rintro e w2 ⟨rfl, hb⟩
  go_wp2_with fail
  go_ret
  exact ⟨rfl, hb⟩
theorem rany_is (a : Option Addr) (n cap x T : Nat) (l : List Nat) (w : World) (hn : l.length = n) (hm : n ≤ 1000) (hT : T = min n 64) (hl : NatsAt .u64 18446744073709551616 w a l) (hx : x < 18446744073709551616) :
    Calls Tryd.prog 29 #[.slice a n cap, .int .u64 x] w fun e w' => e = .returned (.int .u64 ((anyN l (mems (x &&& (pw T - 1)) 64) : Nat) : Int)) ∧ w = w' := by
  rw [any_same l x T hl.1 (by omega)]
  exact rany_any a n cap x T l w hn hm hT hl hx
theorem walk_BitsAny (a0 : Option Addr) (len0 cap0 : Nat) (z0 : List Int) (a1 : Int) (w : World) (w0 : IsRow .u64 w a0 len0 cap0 z0) (w1 : (Lit.int .u64 a1).wf = true) (ht : TabAt w) :
    Calls Tryd.prog 7 #[.slice a0 len0 cap0, .int .u64 a1] w fun e w' => e = .returned (.bool true) ∧ Below w.heap.size w w' := by
  obtain ⟨l, hn, hm, hl⟩ := IsRow.nats (B := 18446744073709551616) (fun n h => by have := bounds_u64 h; omega) w0
  obtain ⟨x, rfl, hx⟩ := u64_nat w1
  have HN := Lib.hid hn
  have hm' : (len0 : Int) ≤ 9223372036854775807 := by unfold maxLen at hm; omega
  clear hn hm w0 w1
  by_cases h : (100 : Int) < len0
  · go_enter Tryd.func7, Tryd.ntmps7
    go_wp2_with fail
    refine (works_any _ ht).mono ?_
    rintro e w2 ⟨rfl, hb⟩
    go_wp2_with fail
    go_ret
    exact ⟨rfl, hb⟩
  · go_enter Tryd.func7, Tryd.ntmps7
    go_wp2_with fail
    refine (any_any a0 len0 cap0 x (min len0 64) l _ HN.out (by omega) rfl hl hx).mono ?_
    rintro e w1 ⟨rfl, hb1⟩
    go_wp2_with fail
    refine (rany_is a0 len0 cap0 x (min len0 64) l _ HN.out (by omega) rfl (hl.below hb1) hx).mono ?_
    rintro e w2 ⟨rfl, rfl⟩
    go_wp2_with fail
    refine (works_any _ (ht.below hb1)).mono ?_
    rintro e w3 ⟨rfl, hb⟩
    go_wp2_with fail
    go_ret
    exact ⟨rfl, below_on hb1 hb⟩
end Go.Proofs.YtkhkaofpmcnllaaDoor
