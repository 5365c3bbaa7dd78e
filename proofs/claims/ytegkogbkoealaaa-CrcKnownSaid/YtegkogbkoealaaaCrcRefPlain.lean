/-
  Plain laws of the document's own answer for chapter 1: the eight numbers make what the bits going by make.
-/
import Derived.Test.YtegkogbkoealaaaCrcPlain
namespace Go.Proofs.Ytegkogbkoealaaa.Crc

def tab : List Nat := [1996959894, 3993919788, 124634137, 249268274, 498536548, 997073096, 1994146192, 3988292384]
/-- what the first k of the eight numbers make of n, by the bits of x -/
def pick (x n : Nat) : Nat → Nat
  | 0 => n
  | k + 1 => if x / 2 ^ k % 2 = 1 then pick x n k ^^^ tab.getD k 0 else pick x n k

theorem pick_xor (x n m : Nat) (k : Nat) : pick x (n ^^^ m) k = n ^^^ pick x m k := by
  induction k with
  | zero => rfl
  | succ k ih => simp only [pick]; rw [ih]; split <;> simp [Nat.xor_assoc]
theorem pick_table : ∀ x, x < 256 → pick x 0 8 = ah8 x := by decide +kernel
theorem ah_double (m : Nat) : ah (2 * m) = m := by unfold ah; rw [if_neg (by omega)]; omega
theorem ah8_high (m : Nat) : ah8 (256 * m) = m := by
  show ah (ah (ah (ah (ah (ah (ah (ah (256 * m)))))))) = m
  rw [show 256 * m = 2 * (2 * (2 * (2 * (2 * (2 * (2 * (2 * m))))))) by omega]
  simp only [ah_double]
theorem pick_step (n c : Nat) (hc : c < 256) : pick (n % 256 ^^^ c) (n / 256) 8 = step n c := by
  have hx : n % 256 ^^^ c < 256 := Nat.xor_lt_two_pow (n := 8) (by omega) hc
  have h1 := pick_xor (n % 256 ^^^ c) (n / 256) 0 8
  rw [Nat.xor_zero] at h1
  rw [h1, pick_table _ hx, step]
  have e : n ^^^ c = 256 * (n / 256) ^^^ (n % 256 ^^^ c) := by
    rw [← Nat.xor_assoc]; congr 1
    refine Nat.eq_of_testBit_eq fun i => ?_
    rw [Nat.testBit_xor, show 256 = 2 ^ 8 from rfl, Nat.testBit_two_pow_mul, Nat.testBit_mod_two_pow, Nat.testBit_div_two_pow]
    rcases Nat.lt_or_ge i 8 with h | h
    · simp [show ¬ 8 ≤ i by omega, h]
    · simp [h, show ¬ i < 8 by omega]
  conv => rhs; rw [e, ah8_xor (256 * (n / 256)), ah8_high]
theorem pick_lt (x : Nat) {n : Nat} (h : n < 4294967296) : ∀ k, pick x n k < 4294967296 := by
  intro k
  induction k with
  | zero => exact h
  | succ k ih =>
    simp only [pick]; split
    · refine xor_lt32 ih ?_
      match k with
      | 0 | 1 | 2 | 3 | 4 | 5 | 6 | 7 => decide
      | k + 8 => simp [tab]
    · exact ih
theorem pick_succ (x n k : Nat) : pick x n (k + 1) = if x / 2 ^ k % 2 = 1 then pick x n k ^^^ tab.getD k 0 else pick x n k := rfl
theorem pick_zero (x n : Nat) : pick x n 0 = n := rfl
theorem tab_lt (k : Nat) : tab.getD k 0 < 4294967296 := by
  match k with
  | 0 | 1 | 2 | 3 | 4 | 5 | 6 | 7 => decide
  | k + 8 => simp [tab]
theorem change_ref (s a b m : Nat) : (s ^^^ sum (a :: List.replicate m 0)) ^^^ sum (b :: List.replicate m 0) = s ^^^ it ah8 (m + 1) (a ^^^ b) := by
  have := sum_one a b [] (List.replicate m 0)
  simp only [List.nil_append, List.length_replicate] at this
  rw [Nat.xor_assoc, this]
/-- what the first j of the eight changes make together, by the bits of y -/
def psum (m y : Nat) : Nat → Nat
  | 0 => 0
  | j + 1 => if y / 2 ^ j % 2 = 1 then psum m y j ^^^ it ah8 (m + 1) (2 ^ j) else psum m y j
theorem psum_zero (m y : Nat) : psum m y 0 = 0 := rfl
theorem psum_succ (m y j : Nat) : psum m y (j + 1) = if y / 2 ^ j % 2 = 1 then psum m y j ^^^ it ah8 (m + 1) (2 ^ j) else psum m y j := rfl
theorem mod_pow_succ_xor (y j : Nat) : y % 2 ^ (j + 1) = if y / 2 ^ j % 2 = 1 then y % 2 ^ j ^^^ 2 ^ j else y % 2 ^ j := by
  refine Nat.eq_of_testBit_eq fun i => ?_
  have hb : (y / 2 ^ j % 2 = 1) ↔ y.testBit j = true := by rw [Nat.testBit_eq_decide_div_mod_eq]; simp
  rw [Nat.testBit_mod_two_pow]
  split
  · rename_i h
    rw [Nat.testBit_xor, Nat.testBit_mod_two_pow, Nat.testBit_two_pow]
    rcases Nat.lt_trichotomy i j with h1 | rfl | h1
    · simp [show i < j + 1 by omega, h1, show ¬ j = i by omega]
    · simp [hb.1 h]
    · simp [show ¬ i < j + 1 by omega, show ¬ i < j by omega, show ¬ j = i by omega]
  · rename_i h
    rw [Nat.testBit_mod_two_pow]
    rcases Nat.lt_trichotomy i j with h1 | rfl | h1
    · simp [show i < j + 1 by omega, h1]
    · have : y.testBit i = false := by
        cases h2 : y.testBit i
        · rfl
        · exact absurd (hb.2 h2) h
      simp [this]
    · simp [show ¬ i < j + 1 by omega, show ¬ i < j by omega]
theorem psum_mod (m y j : Nat) : psum m y j = it ah8 (m + 1) (y % 2 ^ j) := by
  induction j with
  | zero => rw [Nat.pow_zero, Nat.mod_one]; exact (it_zero ah8_zero _).symm
  | succ j ih =>
    rw [psum_succ, mod_pow_succ_xor, ih]
    split
    · rw [it_ah8_xor]
    · rfl
theorem psum_all (m y : Nat) (h : y < 256) : psum m y 8 = it ah8 (m + 1) y := by rw [psum_mod, Nat.mod_eq_of_lt (by omega)]
theorem two_pow_lt8 (j : Nat) (h : j < 8) : 2 ^ j < 256 := by
  match j, h with
  | 0, _ | 1, _ | 2, _ | 3, _ | 4, _ | 5, _ | 6, _ | 7, _ => decide
theorem psum_lt (m y j : Nat) (h : y < 256) : psum m y j < 4294967296 := by
  rw [psum_mod]; exact it_ah8_lt (Nat.lt_of_le_of_lt (Nat.mod_le _ _) (by omega))
theorem hit_iff (m u y : Nat) (hu : u < 4294967296) (hy : y < 256) : it ah8 (m + 1) y = u ↔ bk8 (it bk8 m u) = y := by
  rw [← it_succ bk8]
  constructor
  · rintro rfl; exact back_of (by omega)
  · rintro rfl; exact there_of hu
end Go.Proofs.Ytegkogbkoealaaa.Crc
