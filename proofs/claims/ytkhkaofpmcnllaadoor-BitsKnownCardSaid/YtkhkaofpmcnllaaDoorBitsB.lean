/-
  BitsBack: plain laws of sets and numbers, there and back; contracts over any number.
-/
import Derived.Test.YtkhkaofpmcnllaaDoorBitsLawA
namespace Go.Proofs.YtkhkaofpmcnllaaDoor
open Go.RowKit

theorem withI_test (s : Nat) (n : Int) (i : Nat) : (withI s n).testBit i = (s.testBit i || (decide (0 ≤ n ∧ n ≤ 63) && decide (n = (i : Int)))) := by
  by_cases h : 0 ≤ n ∧ n ≤ 63
  · rw [withI_in s n h, withBit_or, Nat.testBit_or, pw, Nat.testBit_two_pow, decide_eq_true h, Bool.true_and]
    have : (n.toNat = i) ↔ (n = (i : Int)) := by omega
    simp [this]
  · rw [withI_out s n (by omega), decide_eq_false h]; simp
theorem ofN_test (l : List Int) (i : Nat) : (ofN l).testBit i = l.any (fun n => decide (0 ≤ n ∧ n ≤ 63) && decide (n = (i : Int))) := by
  unfold ofN
  have : ∀ (l : List Int) (s : Nat), (l.foldl withI s).testBit i = (s.testBit i || l.any (fun n => decide (0 ≤ n ∧ n ≤ 63) && decide (n = (i : Int)))) := by
    intro l
    induction l with
    | nil => intro s; simp
    | cons n l ih => intro s; rw [List.foldl_cons, ih, withI_test, List.any_cons, Bool.or_assoc]
  rw [this, Nat.zero_testBit, Bool.false_or]
theorem of_list (x : Nat) (hx : x < 18446744073709551616) : ofN (ints (mems x 64)) = x := by
  apply Nat.eq_of_testBit_eq
  intro i
  rw [ofN_test, Bool.eq_iff_iff, List.any_eq_true]
  constructor
  · rintro ⟨c, hc, h⟩
    obtain ⟨m, hm, rfl⟩ := List.mem_map.1 hc
    simp only [Bool.and_eq_true, decide_eq_true_eq] at h
    obtain rfl : m = i := by omega
    rw [← hasBit_test]; exact (mems_mem.1 hm).2
  · intro h
    have hi := lt_test hx h
    refine ⟨(i : Int), List.mem_map.2 ⟨i, mems_mem.2 ⟨hi, by rw [hasBit_test]; exact h⟩, rfl⟩, ?_⟩
    simp; omega
theorem mems_rise (x k i a b : Nat) (ha : (mems x k)[i]? = some a) (hb : (mems x k)[i + 1]? = some b) : a < b := by
  have hp : (mems x k).Pairwise (· < ·) := List.Pairwise.filter _ List.pairwise_lt_range
  obtain ⟨h1, rfl⟩ := List.getElem?_eq_some_iff.1 ha
  obtain ⟨h2, rfl⟩ := List.getElem?_eq_some_iff.1 hb
  exact List.pairwise_iff_getElem.1 hp i (i + 1) h1 h2 (by omega)
theorem ints_rise (x i : Nat) (a b : Int) (ha : (ints (mems x 64))[i]? = some a) (hb : (ints (mems x 64))[i + 1]? = some b) : a < b := by
  unfold ints at ha hb
  rw [List.getElem?_map] at ha hb
  cases h1 : (mems x 64)[i]? with
  | none => rw [h1] at ha; cases ha
  | some p =>
    cases h2 : (mems x 64)[i + 1]? with
    | none => rw [h2] at hb; cases hb
    | some q =>
      rw [h1] at ha; rw [h2] at hb
      simp only [Option.map_some, Option.some.injEq] at ha hb
      have := mems_rise x 64 i p q h1 h2
      omega
/-- does a number stand among the first k? -/
def memB (l : List Int) (n : Int) (k : Nat) : Bool := (l.take k).any (fun c => decide (c = n))
theorem memB_zero (l : List Int) (n : Int) : memB l n 0 = false := rfl
theorem memB_succ {l : List Int} {k : Nat} {c : Int} (n : Int) (h : l[k]? = some c) : memB l n (k + 1) = (memB l n k || decide (c = n)) := by
  unfold memB
  rw [take_get h, List.any_append]; simp
/-- is a number in a set? any number -/
def hasI (x : Nat) (n : Int) : Bool := decide (0 ≤ n ∧ n ≤ 63) && hasBit x n.toNat
theorem memB_all (x : Nat) (n : Int) (k : Nat) (hk : (ints (mems x 64)).length = k) : memB (ints (mems x 64)) n k = hasI x n := by
  unfold memB hasI
  rw [← hk, List.take_length, Bool.eq_iff_iff, List.any_eq_true]
  constructor
  · rintro ⟨c, hc, h⟩
    obtain ⟨m, hm, rfl⟩ := List.mem_map.1 hc
    have h := of_decide_eq_true h
    obtain ⟨h1, h2⟩ := mems_mem.1 hm
    subst h
    simp only [Bool.and_eq_true, decide_eq_true_eq]
    exact ⟨by omega, h2⟩
  · intro h
    simp only [Bool.and_eq_true, decide_eq_true_eq] at h
    exact ⟨n, List.mem_map.2 ⟨n.toNat, mems_mem.2 ⟨by omega, h.2⟩, by omega⟩, by simp⟩
/-- the set without a number, any number -/
def woI (x : Nat) (n : Int) : Nat := if 0 ≤ n ∧ n ≤ 63 then woBit x n.toNat else x
theorem woBit_test (s n i : Nat) (hn : n ≤ 63) (hs : s < 18446744073709551616) : (woBit s n).testBit i = (s.testBit i && !decide (n = i)) := by
  rw [← woBit_and s n hn hs, Nat.testBit_and, all_test n i hn]
  cases hb : s.testBit i with
  | false => rfl
  | true => simp [lt_test hs hb]
theorem woI_test (s : Nat) (n : Int) (i : Nat) (hs : s < 18446744073709551616) : (woI s n).testBit i = (s.testBit i && !(decide (0 ≤ n ∧ n ≤ 63) && decide (n = (i : Int)))) := by
  unfold woI
  by_cases h : 0 ≤ n ∧ n ≤ 63
  · rw [if_pos h, woBit_test _ _ _ (by omega) hs, decide_eq_true h, Bool.true_and]
    have : (n.toNat = i) ↔ (n = (i : Int)) := by omega
    simp [this]
  · rw [if_neg h, decide_eq_false h]; simp
theorem woI_lt {s : Nat} (n : Int) (hs : s < 18446744073709551616) : woI s n < 18446744073709551616 := by
  unfold woI
  split
  · exact Nat.lt_of_le_of_lt (woBit_le _ _) hs
  · exact hs
theorem hasI_test (x : Nat) (n : Int) : hasI x n = (decide (0 ≤ n ∧ n ≤ 63) && x.testBit n.toNat) := by rw [hasI, hasBit_test]
theorem hasI_with (x : Nat) (n : Int) : hasI (withI x n) n = decide (0 ≤ n ∧ n ≤ 63) := by
  rw [hasI_test, withI_test]
  by_cases h : 0 ≤ n ∧ n ≤ 63
  · have : n = ((n.toNat : Nat) : Int) := by omega
    rw [decide_eq_true h, decide_eq_true this]; simp
  · rw [decide_eq_false h]; rfl
theorem hasI_wo (x : Nat) (n : Int) (hx : x < 18446744073709551616) : hasI (woI x n) n = false := by
  rw [hasI_test, woI_test _ _ _ hx]
  by_cases h : 0 ≤ n ∧ n ≤ 63
  · have : n = ((n.toNat : Nat) : Int) := by omega
    rw [decide_eq_true h, decide_eq_true this]; simp
  · rw [decide_eq_false h]; rfl
theorem wo_with (x : Nat) (n : Int) (hx : x < 18446744073709551616) : woI (withI x n) n = woI x n := by
  apply Nat.eq_of_testBit_eq
  intro i
  rw [woI_test _ _ _ (withI_lt n hx), withI_test, woI_test _ _ _ hx]
  cases x.testBit i <;> cases (decide (0 ≤ n ∧ n ≤ 63) && decide (n = (i : Int))) <;> rfl
theorem with_wo (x : Nat) (n : Int) (hx : x < 18446744073709551616) : withI (woI x n) n = withI x n := by
  apply Nat.eq_of_testBit_eq
  intro i
  rw [withI_test, woI_test _ _ _ hx, withI_test]
  cases x.testBit i <;> cases (decide (0 ≤ n ∧ n ≤ 63) && decide (n = (i : Int))) <;> rfl
theorem or_with_wo (x : Nat) (n : Int) (hx : x < 18446744073709551616) : withI x n ||| woI x n = withI x n := by
  apply Nat.eq_of_testBit_eq
  intro i
  rw [Nat.testBit_or, withI_test, woI_test _ _ _ hx]
  cases x.testBit i <;> cases (decide (0 ≤ n ∧ n ≤ 63) && decide (n = (i : Int))) <;> rfl
theorem bhasI_any (x : Nat) (n : Int) (w : World) (hx : x < 18446744073709551616) :
    Calls Tryd.prog 10 #[.int .u64 x, .int .i64 n] w fun e w' => e = .returned (.bool (hasI x n)) ∧ w = w' := by
  by_cases h : 0 ≤ n ∧ n ≤ 63
  · obtain ⟨m, rfl⟩ : ∃ m : Nat, n = m := ⟨n.toNat, by omega⟩
    rw [hasI, decide_eq_true h, Bool.true_and, show (m : Int).toNat = m by omega]
    exact bhas_any x m w (by omega) hx
  · rw [hasI, decide_eq_false h, Bool.false_and]
    exact bhas_out x n w (by omega)
theorem bwithI_any (x : Nat) (n : Int) (w : World) (hx : x < 18446744073709551616) :
    Calls Tryd.prog 12 #[.int .u64 x, .int .i64 n] w fun e w' => e = .returned (.int .u64 ((withI x n : Nat) : Int)) ∧ w = w' := by
  by_cases h : 0 ≤ n ∧ n ≤ 63
  · rw [withI_in x n h]
    obtain ⟨m, rfl⟩ : ∃ m : Nat, n = m := ⟨n.toNat, by omega⟩
    rw [show (m : Int).toNat = m by omega]
    exact bwith_any x m w (by omega) hx
  · rw [withI_out x n (by omega)]
    exact bwith_out x n w (by omega) hx
theorem bwoI_any (x : Nat) (n : Int) (w : World) (hx : x < 18446744073709551616) :
    Calls Tryd.prog 14 #[.int .u64 x, .int .i64 n] w fun e w' => e = .returned (.int .u64 ((woI x n : Nat) : Int)) ∧ w = w' := by
  unfold woI
  by_cases h : 0 ≤ n ∧ n ≤ 63
  · rw [if_pos h]
    obtain ⟨m, rfl⟩ : ∃ m : Nat, n = m := ⟨n.toNat, by omega⟩
    rw [show (m : Int).toNat = m by omega]
    exact bwo_any x m w (by omega) hx
  · rw [if_neg h]
    exact bwo_out x n w (by omega) hx
theorem low_head (x : Nat) (k : Nat) (hk : (mems x 64).length = k) : (k = 0 ∧ lowN x = 64) ∨ (0 < k ∧ (ints (mems x 64))[0]? = some ((lowN x : Nat) : Int)) := by
  cases hm : mems x 64 with
  | nil => rw [hm] at hk; exact .inl ⟨hk.symm, by unfold lowN; rw [hm]; rfl⟩
  | cons a r =>
    refine .inr ⟨by rw [hm] at hk; simp at hk; omega, ?_⟩
    have : lowN x = a := by unfold lowN; rw [hm]; rfl
    rw [this]; rfl
end Go.Proofs.YtkhkaofpmcnllaaDoor
