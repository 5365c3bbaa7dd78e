/-
  Powers of two and bits, plainly.
-/
import Derived.Test.YtjienmjpfklgeaaMA
namespace Go.Proofs.Ytjienmjpfklgeaa
open Go.RowKit

/-- a power of two, behind a name -/
def pw (n : Nat) : Nat := 2 ^ n
theorem pw_eq (n : Nat) : pw n = 2 ^ n := rfl
theorem pw_pos (n : Nat) : 0 < pw n := Nat.two_pow_pos n
theorem pw_zero : pw 0 = 1 := rfl
theorem pw_succ (n : Nat) : pw (n + 1) = pw n * 2 := Nat.pow_succ ..
theorem pw_le {n : Nat} (h : n ≤ 63) : pw n ≤ 9223372036854775808 := by
  have := Nat.pow_le_pow_right (n := 2) (by omega) h
  simpa [pw] using this
theorem pw_step (k : Nat) (h : k < 63) : IntKind.u64.wrap ((pw k : Int) * 2) = (pw (k + 1) : Int) := by
  have h1 := pw_le (n := k + 1) (by omega)
  have h2 := pw_succ k
  rw [IntKind.wrap_u64]
  omega
/-- is number i in the set s? -/
def hasBit (s i : Nat) : Bool := decide (s / pw i % 2 = 1)
/-- the set with number i in it -/
def withBit (s i : Nat) : Nat := if hasBit s i then s else s + pw i
theorem has_val (s n : Nat) (hs : s < 18446744073709551616) : ((IntKind.u64.wrap ((s : Int) / (pw n : Int))).tmod 2 == 1) = hasBit s n := by
  have h1 : s / pw n < 18446744073709551616 := Nat.lt_of_le_of_lt (Nat.div_le_self _ _) hs
  unfold hasBit
  rw [show (s : Int) / (pw n : Int) = ((s / pw n : Nat) : Int) from (Int.natCast_ediv s (pw n)).symm, IntKind.wrap_u64]
  generalize s / pw n = y at *
  have e : ((y : Int) % 18446744073709551616).tmod 2 = ((y % 2 : Nat) : Int) := by
    rw [Int.tmod_eq_emod_of_nonneg (by omega)]; omega
  rw [e, Bool.eq_iff_iff]; simp; omega
theorem with_fits (s n : Nat) (hn : n ≤ 63) (hs : s < 18446744073709551616) (h : hasBit s n = false) : s + pw n < 18446744073709551616 := by
  have hb : s / pw n % 2 = 0 := by
    have : ¬ s / pw n % 2 = 1 := of_decide_eq_false h
    omega
  have key : s + pw n < 2 ^ 64 := by
    refine Nat.lt_of_not_le fun hge => ?_
    have e64 : 2 ^ 64 = pw n * 2 ^ (64 - n) := by rw [pw, ← Nat.pow_add]; congr 1; omega
    have h1 : 2 ^ (64 - n) - 1 ≤ s / pw n := by
      rw [Nat.le_div_iff_mul_le (pw_pos n), Nat.sub_mul, Nat.one_mul, Nat.mul_comm, ← e64]; omega
    have h2 : s / pw n < 2 ^ (64 - n) := by
      rw [Nat.div_lt_iff_lt_mul (pw_pos n), Nat.mul_comm, ← e64]; omega
    have h3 : 2 ^ (64 - n) % 2 = 0 := by
      rw [show 64 - n = (63 - n) + 1 by omega, Nat.pow_succ]; omega
    have h4 := Nat.two_pow_pos (64 - n)
    omega
  exact key
theorem with_sum (s n : Nat) (hn : n ≤ 63) (hs : s < 18446744073709551616) (h : hasBit s n = false) : IntKind.u64.wrap ((s : Int) + (pw n : Int)) = ((s + pw n : Nat) : Int) := by
  have := with_fits s n hn hs h
  rw [IntKind.wrap_u64]; omega
theorem withBit_lt (s n : Nat) (hn : n ≤ 63) (hs : s < 18446744073709551616) : withBit s n < 18446744073709551616 := by
  unfold withBit
  cases h : hasBit s n
  · exact with_fits s n hn hs h
  · exact hs
/-- the first n numbers -/
theorem withBit_first (k : Nat) : withBit (pw k - 1) k = pw (k + 1) - 1 := by
  have h0 := pw_pos k
  have : hasBit (pw k - 1) k = false := by
    unfold hasBit; rw [Nat.div_eq_of_lt (by omega)]; rfl
  rw [withBit, this, pw_succ]; simp only [Bool.false_eq_true, if_false]; omega

end Go.Proofs.Ytjienmjpfklgeaa
