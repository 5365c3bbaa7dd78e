/-
  Layer 06, plainly: the table of conflicts, as sets; how it grows.
-/
import Derived.Test.YtjienmjpfklgeaaPwF
import Derived.Test.YtjienmjpfklgeaaCoA
namespace Go.Proofs.Ytjienmjpfklgeaa
open Go.RowKit

/-- the numbers below n of which f is true, as a set -/
def bitsOf (f : Nat → Bool) : Nat → Nat
  | 0 => 0
  | n + 1 => if f n then withBit (bitsOf f n) n else bitsOf f n
theorem withBit_test (s n i : Nat) : hasBit (withBit s n) i = (hasBit s i || decide (n = i)) := by
  rw [hasBit_test, hasBit_test, withBit_or, Nat.testBit_or, pw, Nat.testBit_two_pow]
theorem bitsOf_test (f : Nat → Bool) (n i : Nat) : hasBit (bitsOf f n) i = (decide (i < n) && f i) := by
  induction n with
  | zero =>
    rw [hasBit_test]
    show (0 : Nat).testBit i = _
    simp
  | succ n ih =>
    have e : bitsOf f (n + 1) = if f n then withBit (bitsOf f n) n else bitsOf f n := rfl
    rw [e]
    by_cases hi : i = n
    · subst hi
      cases h : f i with
      | true => rw [if_pos rfl, withBit_test]; simp
      | false => rw [if_neg (by decide), ih]; simp
    · have h1 : decide (i < n + 1) = decide (i < n) := by rw [decide_eq_decide]; omega
      rw [h1]
      cases h : f n with
      | true => rw [if_pos rfl, withBit_test, ih, decide_eq_false (fun e : n = i => hi e.symm), Bool.or_false]
      | false => rw [if_neg (by decide), ih]
theorem bits_ext {a b : Nat} (h : ∀ i, hasBit a i = hasBit b i) : a = b := Nat.eq_of_testBit_eq (fun i => by rw [← hasBit_test, ← hasBit_test]; exact h i)
theorem bitsOf_lt (f : Nat → Bool) : ∀ n, n ≤ 64 → bitsOf f n < 18446744073709551616 := by
  intro n
  induction n with
  | zero => intro _; exact (by decide : (0 : Nat) < 18446744073709551616)
  | succ n ih =>
    intro h
    have e : bitsOf f (n + 1) = if f n then withBit (bitsOf f n) n else bitsOf f n := rfl
    rw [e]
    split
    · exact withBit_lt _ _ (by omega) (ih (by omega))
    · exact ih (by omega)
theorem bitsOf_lt2 (f : Nat → Bool) : ∀ n, bitsOf f n < 2 ^ n := by
  intro n
  apply Nat.lt_of_not_le
  intro h
  obtain ⟨i, hi, ht⟩ : ∃ i, n ≤ i ∧ (bitsOf f n).testBit i = true := Nat.exists_ge_and_testBit_of_ge_two_pow h
  rw [← hasBit_test, bitsOf_test, decide_eq_false (by omega)] at ht
  cases ht
/-- do the routes of two numbers conflict? -/
def cfS (L : Lay) (i k : Nat) : Bool := match L.rt.l[i]?, L.rt.l[k]? with | some x, some y => conflictS L x y | _, _ => false
theorem cfS_at {L : Lay} {i k : Nat} {x y : Rt} (hi : L.rt.l[i]? = some x) (hk : L.rt.l[k]? = some y) : cfS L i k = conflictS L x y := by unfold cfS; rw [hi, hk]
theorem cfS_comm (L : Lay) (i k : Nat) : cfS L i k = cfS L k i := by
  unfold cfS
  rcases L.rt.l[i]? with _ | x <;> rcases L.rt.l[k]? with _ | y <;> first | rfl | exact conflict_comm L x y
/-- the row of number i, when n routes are there -/
def rowS (L : Lay) (i : Nat) : Nat := bitsOf (fun m => decide (i ≠ m) && cfS L i m) L.rt.l.length
def tabS (L : Lay) : List Nat := (List.range L.rt.l.length).map (rowS L)
theorem tabS_len (L : Lay) : (tabS L).length = L.rt.l.length := by simp [tabS]
theorem tabS_get {L : Lay} {i : Nat} (h : i < L.rt.l.length) : (tabS L)[i]? = some (rowS L i) := by simp [tabS, h]
theorem rowS_lt {L : Lay} (h : L.rt.l.length ≤ 64) (i : Nat) : rowS L i < 18446744073709551616 := bitsOf_lt _ _ h
theorem rowS_test (L : Lay) (i k : Nat) : hasBit (rowS L i) k = (decide (k < L.rt.l.length) && (decide (i ≠ k) && cfS L i k)) := bitsOf_test _ _ _
/-- has a pair been looked at, at inner turn k of turn i? -/
def seenB (i k j m : Nat) : Bool := decide ((j < i ∧ m < i ∧ j ≠ m) ∨ (j = i ∧ m < k) ∨ (m = i ∧ j < k))
/-- what row j is then -/
def growS (L : Lay) (i k j : Nat) : Nat := bitsOf (fun m => seenB i k j m && cfS L j m) L.rt.l.length
theorem growS_lt {L : Lay} (h : L.rt.l.length ≤ 64) (i k j : Nat) : growS L i k j < 18446744073709551616 := bitsOf_lt _ _ h
theorem growS_start (L : Lay) (j : Nat) : growS L 0 0 j = 0 := by
  apply bits_ext
  intro m
  unfold growS
  rw [bitsOf_test]
  have : seenB 0 0 j m = false := by unfold seenB; exact decide_eq_false (by omega)
  rw [this, hasBit_test]
  simp
theorem growS_turn (L : Lay) (i j : Nat) : growS L i i j = growS L (i + 1) 0 j := by
  apply bits_ext
  intro m
  unfold growS
  rw [bitsOf_test, bitsOf_test]
  have : seenB i i j m = seenB (i + 1) 0 j m := by unfold seenB; rw [decide_eq_decide]; omega
  rw [this]
theorem growS_end (L : Lay) (j : Nat) (hj : j < L.rt.l.length) : growS L L.rt.l.length 0 j = rowS L j := by
  apply bits_ext
  intro m
  rw [rowS_test]
  unfold growS
  rw [bitsOf_test]
  by_cases hm : m < L.rt.l.length
  · have : seenB L.rt.l.length 0 j m = decide (j ≠ m) := by unfold seenB; rw [decide_eq_decide]; omega
    rw [this]
  · rw [decide_eq_false hm]; rfl
theorem growS_no {L : Lay} {i k : Nat} (hk : k < i) (h : cfS L i k = false) (j : Nat) : growS L i (k + 1) j = growS L i k j := by
  apply bits_ext
  intro m
  unfold growS
  rw [bitsOf_test, bitsOf_test]
  congr 1
  by_cases h1 : j = i ∧ m = k
  · rw [h1.1, h1.2, h, Bool.and_false, Bool.and_false]
  · by_cases h2 : m = i ∧ j = k
    · rw [h2.1, h2.2, cfS_comm, h, Bool.and_false, Bool.and_false]
    · have : seenB i (k + 1) j m = seenB i k j m := by unfold seenB; rw [decide_eq_decide]; omega
      rw [this]
theorem growS_same {L : Lay} {i k j : Nat} (h1 : j ≠ i) (h2 : j ≠ k) : growS L i (k + 1) j = growS L i k j := by
  apply bits_ext
  intro m
  unfold growS
  rw [bitsOf_test, bitsOf_test]
  have : seenB i (k + 1) j m = seenB i k j m := by unfold seenB; rw [decide_eq_decide]; omega
  rw [this]
theorem growS_i {L : Lay} {i k : Nat} (hk : k < i) (hi : i < L.rt.l.length) (h : cfS L i k = true) : withBit (growS L i k i) k = growS L i (k + 1) i := by
  apply bits_ext
  intro m
  rw [withBit_test]
  unfold growS
  rw [bitsOf_test, bitsOf_test]
  by_cases hm : k = m
  · subst hm
    have : seenB i (k + 1) i k = true := by unfold seenB; exact decide_eq_true (by omega)
    rw [this, h, decide_eq_true (show k < L.rt.l.length by omega)]
    simp
  · have : seenB i (k + 1) i m = seenB i k i m := by unfold seenB; rw [decide_eq_decide]; omega
    rw [this, decide_eq_false (p := _ = m) hm, Bool.or_false]
theorem growS_k {L : Lay} {i k : Nat} (hk : k < i) (hi : i < L.rt.l.length) (h : cfS L i k = true) : withBit (growS L i k k) i = growS L i (k + 1) k := by
  apply bits_ext
  intro m
  rw [withBit_test]
  unfold growS
  rw [bitsOf_test, bitsOf_test]
  by_cases hm : i = m
  · subst hm
    have : seenB i (k + 1) k i = true := by unfold seenB; exact decide_eq_true (by omega)
    rw [this, cfS_comm, h, decide_eq_true hi]
    simp
  · have : seenB i (k + 1) k m = seenB i k k m := by unfold seenB; rw [decide_eq_decide]; omega
    rw [this, decide_eq_false (p := _ = m) hm, Bool.or_false]
/-- the document's row, as far as number k -/
def rrowS (L : Lay) (i k : Nat) : Nat := bitsOf (fun m => decide (i ≠ m) && cfS L i m) k
theorem rrowS_zero (L : Lay) (i : Nat) : rrowS L i 0 = 0 := rfl
theorem rrowS_end (L : Lay) (i : Nat) : rrowS L i L.rt.l.length = rowS L i := rfl
theorem rrowS_yes {L : Lay} {i k : Nat} (h1 : i ≠ k) (h2 : cfS L i k = true) : rrowS L i (k + 1) = withBit (rrowS L i k) k := by
  unfold rrowS
  have e : bitsOf (fun m => decide (i ≠ m) && cfS L i m) (k + 1) = if (decide (i ≠ k) && cfS L i k) then withBit (bitsOf (fun m => decide (i ≠ m) && cfS L i m) k) k else bitsOf (fun m => decide (i ≠ m) && cfS L i m) k := rfl
  rw [e, decide_eq_true h1, h2]; rfl
theorem rrowS_no {L : Lay} {i k : Nat} (h : i = k ∨ cfS L i k = false) : rrowS L i (k + 1) = rrowS L i k := by
  unfold rrowS
  have e : bitsOf (fun m => decide (i ≠ m) && cfS L i m) (k + 1) = if (decide (i ≠ k) && cfS L i k) then withBit (bitsOf (fun m => decide (i ≠ m) && cfS L i m) k) k else bitsOf (fun m => decide (i ≠ m) && cfS L i m) k := rfl
  have h0 : (decide (i ≠ k) && cfS L i k) = false := by
    rcases h with h | h
    · rw [decide_eq_false (fun e => e h)]; rfl
    · rw [h, Bool.and_false]
  rw [e, h0]; rfl
theorem rrowS_lt (L : Lay) (i : Nat) {k : Nat} (h : k ≤ 64) : rrowS L i k < 18446744073709551616 := bitsOf_lt _ _ h
/-- all that conflict with route n, below number k -/
def ofS (L : Lay) (n k : Nat) : List Nat := (List.range k).filter (fun m => decide (m ≠ n) && cfS L n m)
theorem ofS_zero (L : Lay) (n : Nat) : ofS L n 0 = [] := rfl
theorem ofS_yes {L : Lay} {n k : Nat} (h1 : k ≠ n) (h2 : cfS L n k = true) : ofS L n (k + 1) = ofS L n k ++ [k] := by
  unfold ofS
  rw [List.range_succ, List.filter_append]
  simp [h1, h2]
theorem ofS_no {L : Lay} {n k : Nat} (h : k = n ∨ cfS L n k = false) : ofS L n (k + 1) = ofS L n k := by
  unfold ofS
  rw [List.range_succ, List.filter_append]
  rcases h with h | h <;> simp [h]
theorem ofS_len (L : Lay) (n k : Nat) : (ofS L n k).length ≤ k := by
  unfold ofS
  exact Nat.le_trans (List.length_filter_le _ _) (by simp)
theorem ofS_small {L : Lay} {n k : Nat} : ∀ m ∈ ofS L n k, m < k := by
  intro m hm
  unfold ofS at hm
  simpa using (List.mem_filter.1 hm).1
end Go.Proofs.Ytjienmjpfklgeaa
