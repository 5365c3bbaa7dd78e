/-
  The law InputsSafe.
-/
import Derived.Test.YtgepflelaemmnaaInLawMerge
import Derived.Test.YtgepflelaemmnaaInLawRight
namespace Go.Proofs.Ytgepflelaemmnaa
open Go.RowKit

theorem or_and_left (a b : Nat) : (a ||| b) &&& a = a := by
  refine Nat.eq_of_testBit_eq fun i => ?_
  simp only [Nat.testBit_and, Nat.testBit_or]
  cases a.testBit i <;> simp
theorem or_and_right (a b : Nat) : (a ||| b) &&& b = b := by
  refine Nat.eq_of_testBit_eq fun i => ?_
  simp only [Nat.testBit_and, Nat.testBit_or]
  cases b.testBit i <;> simp
theorem and_and_left (a b : Nat) : (a &&& b) &&& a = a &&& b := by
  refine Nat.eq_of_testBit_eq fun i => ?_
  simp only [Nat.testBit_and]
  cases a.testBit i <;> simp
theorem and_and_right (a b : Nat) : (a &&& b) &&& b = a &&& b := by
  refine Nat.eq_of_testBit_eq fun i => ?_
  simp only [Nat.testBit_and]
  cases b.testBit i <;> simp
theorem both_comm (la lb : List (Nat × Int)) : both lb la = both la lb := by
  unfold both
  by_cases h : la = lb
  · rw [if_pos h, if_pos h.symm, h]
  · rw [if_neg h, if_neg (fun e => h e.symm)]
theorem both_or (la lb : List (Nat × Int)) : both la lb = [] ∨ both la lb = la := by
  unfold both; split <;> simp
theorem both_or' (la lb : List (Nat × Int)) : both la lb = [] ∨ both la lb = lb := by
  rw [← both_comm]; exact both_or lb la
theorem and64 (a b : Nat) (ha : a < 18446744073709551616) (hb : b < 18446744073709551616) : bits .and .u64 (a : Int) (b : Int) = ((a &&& b : Nat) : Int) := u64_and_nat a b ha hb
theorem right_merged {S P R o1 n1 r1 o2 n2 r2 : Nat} {la lb : List (Nat × Int)} (h1 : inRight S P R o1 n1 r1 la = true) (h2 : inRight S P R o2 n2 r2 lb = true) : inRight S P R (o1 ||| o2) (n1 &&& n2) (r1 &&& r2) (both la lb) = true := by
  simp only [inRight, Bool.and_eq_true, decide_eq_true_eq] at *
  obtain ⟨⟨⟨a1, a2⟩, a3⟩, a4⟩ := h1
  obtain ⟨⟨⟨b1, b2⟩, b3⟩, b4⟩ := h2
  refine ⟨⟨⟨Nat.or_lt_two_pow a1 b1, Nat.or_lt_two_pow ?_ ?_⟩, ?_⟩, ?_⟩
  · exact Nat.lt_of_le_of_lt Nat.and_le_left (Nat.lt_of_le_of_lt Nat.left_le_or a2)
  · exact Nat.lt_of_le_of_lt Nat.and_le_left (Nat.lt_of_le_of_lt Nat.right_le_or a2)
  · exact Nat.le_trans (both_length la lb) a3
  · rcases both_or la lb with h | h
    · rw [h]; rfl
    · rw [h]; exact a4

set_option maxHeartbeats 1000000 in
theorem safer_true (o1 n1 r1 o2 n2 r2 : Nat) (a b : Option Addr) (la lb : List (Nat × Int)) (n m ca cb : Nat) (w : World) (hn : la.length = n) (hm : lb.length = m) (hnl : n ≤ 1000) (hml : m ≤ 1000) (ha : CmdsAt w a la) (hb : CmdsAt w b lb)
    (h1 : bits .and .u64 (o1 : Int) (o2 : Int) = (o2 : Int)) (h2 : bits .and .u32 (n1 : Int) (n2 : Int) = (n1 : Int)) (h3 : bits .and .u32 (r1 : Int) (r2 : Int) = (r1 : Int)) (hL : la = [] ∨ la = lb) :
    Calls Try.prog 18 #[.agg #[.int .u64 (o1 : Int), .int .u32 (n1 : Int), .int .u32 (r1 : Int), .slice a n ca], .agg #[.int .u64 (o2 : Int), .int .u32 (n2 : Int), .int .u32 (r2 : Int), .slice b m cb]] w
      fun e w' => e = .returned (.bool true) ∧ Below w.heap.size w w' := by
  rcases Nat.eq_zero_or_pos n with h0 | h0
  · subst h0
    clear hn hm ha hb hL
    go_enter Try.func18, Try.ntmps18
    go_wp2_with fail
    go_ret
    exact ⟨rfl, below2' _ _ _⟩
  · have hl : la = lb := by
      rcases hL with h | h
      · rw [h] at hn; simp at hn; omega
      · exact h
    have HN := Lib.hid hn
    have HM := Lib.hid hm
    have HL := Lib.hid hl
    have hz : ((n : Int) == 0) = false := by simp; omega
    have hz2 : ¬ n = 0 := by omega
    clear hn hm hl hL
    go_enter Try.func18, Try.ntmps18
    go_wp2_with fail
    refine (samecmds_any a b la lb n m ca cb _ HN.out HM.out hnl hml (ha.below (below2' _ _ _)) (hb.below (below2' _ _ _))).mono ?_
    rintro e w1 ⟨rfl, hb1⟩
    rw [decide_eq_true HL.out]
    go_wp2_with fail
    go_ret
    exact ⟨rfl, below_on (below2' _ _ _) hb1⟩
end Go.Proofs.Ytgepflelaemmnaa
