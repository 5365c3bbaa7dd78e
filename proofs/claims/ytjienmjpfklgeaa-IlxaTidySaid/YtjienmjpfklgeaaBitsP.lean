/-
  Plain laws of sets as bits, no program in sight: a bit more, a bit less, the numbers of a set.
-/
import Derived.Test.YtjienmjpfklgeaaPw
import Derived.Laws.BitsAllLaws
namespace Go.Proofs.Ytjienmjpfklgeaa
open Go.RowKit

theorem hasBit_test (s i : Nat) : hasBit s i = s.testBit i := by
  unfold hasBit pw; rw [Nat.testBit_eq_decide_div_mod_eq]
theorem withBit_or (s n : Nat) : withBit s n = s ||| pw n := by
  unfold withBit
  cases h : hasBit s n with
  | true =>
    rw [hasBit_test] at h
    simp only [if_true]
    apply Nat.eq_of_testBit_eq
    intro i
    rw [Nat.testBit_or, pw, Nat.testBit_two_pow]
    by_cases hi : n = i
    · subst hi; rw [h]; rfl
    · simp [hi]
  | false =>
    simp only [Bool.false_eq_true, if_false]
    have h0 : s / pw n % 2 = 0 := by
      have : ¬ s / pw n % 2 = 1 := of_decide_eq_false h
      omega
    have e1 : s = pw (n + 1) * (s / pw (n + 1)) + s % pw (n + 1) := (Nat.div_add_mod s _).symm
    have hr : s % pw (n + 1) < pw n := by
      have e2 : s % pw (n + 1) = s % pw n + pw n * (s / pw n % 2) := by rw [pw_succ]; exact Nat.mod_mul
      rw [e2, h0, Nat.mul_zero, Nat.add_zero]; exact Nat.mod_lt _ (pw_pos n)
    generalize s / pw (n + 1) = q at *
    generalize s % pw (n + 1) = r at *
    have a1 : pw (n + 1) * q + r = pw (n + 1) * q ||| r := Nat.two_pow_add_eq_or_of_lt (i := n + 1) (by show r < pw (n + 1); rw [pw_succ]; omega) q
    have a2 : pw n * 1 + r = pw n * 1 ||| r := Nat.two_pow_add_eq_or_of_lt (i := n) hr 1
    have a3 : pw (n + 1) * q + (pw n * 1 + r) = pw (n + 1) * q ||| (pw n * 1 + r) := Nat.two_pow_add_eq_or_of_lt (i := n + 1) (by show _ < pw (n + 1); rw [pw_succ]; omega) q
    rw [Nat.mul_one] at a2 a3
    rw [e1, a1, Nat.or_assoc, Nat.or_comm r, ← a2, ← a3]
    rw [← a1]; omega
/-- the set without number i -/
def woBit (s i : Nat) : Nat := if hasBit s i then s - pw i else s
theorem all_test (n i : Nat) (hn : n ≤ 63) : (18446744073709551615 - pw n).testBit i = (decide (i < 64) && !decide (n = i)) := by
  have h : pw n < 2 ^ 64 := by have := pw_le hn; omega
  have := Nat.testBit_two_pow_sub_succ h i
  rw [show 18446744073709551615 - pw n = 2 ^ 64 - (pw n + 1) by omega, this, pw, Nat.testBit_two_pow]
theorem lt_test {s i : Nat} (hs : s < 18446744073709551616) (h : s.testBit i = true) : i < 64 := by
  refine Nat.lt_of_not_le fun hi => ?_
  have h1 : s < 2 ^ i := Nat.lt_of_lt_of_le hs (Nat.pow_le_pow_right (n := 2) (by omega) hi)
  rw [Nat.testBit_lt_two_pow h1] at h
  exact absurd h (by decide)
theorem woBit_and (s n : Nat) (hn : n ≤ 63) (hs : s < 18446744073709551616) : s &&& (18446744073709551615 - pw n) = woBit s n := by
  have ht : ∀ i, (s &&& (18446744073709551615 - pw n)).testBit i = (s.testBit i && !decide (n = i)) := by
    intro i
    rw [Nat.testBit_and, all_test n i hn]
    cases hb : s.testBit i with
    | false => rfl
    | true => simp [lt_test hs hb]
  unfold woBit
  cases h : hasBit s n with
  | false =>
    simp only [Bool.false_eq_true, if_false]
    apply Nat.eq_of_testBit_eq
    intro i
    rw [ht]
    by_cases hi : n = i
    · subst hi; rw [← hasBit_test, h]; rfl
    · simp [hi]
  | true =>
    simp only [if_true]
    have h2 : hasBit (s &&& (18446744073709551615 - pw n)) n = false := by rw [hasBit_test, ht]; simp
    have h3 : withBit (s &&& (18446744073709551615 - pw n)) n = s := by
      rw [withBit_or]
      apply Nat.eq_of_testBit_eq
      intro i
      rw [Nat.testBit_or, ht, pw, Nat.testBit_two_pow]
      by_cases hi : n = i
      · subst hi; rw [← hasBit_test, h]; simp
      · simp [hi]
    unfold withBit at h3
    rw [h2] at h3
    simp only [Bool.false_eq_true, if_false] at h3
    omega
theorem woBit_le (s n : Nat) : woBit s n ≤ s := by unfold woBit; split <;> omega
/-- the set with a number, of any number -/
def withI (s : Nat) (n : Int) : Nat := if 0 ≤ n ∧ n ≤ 63 then withBit s n.toNat else s
theorem withI_lt {s : Nat} (n : Int) (hs : s < 18446744073709551616) : withI s n < 18446744073709551616 := by
  unfold withI; split
  · exact withBit_lt _ _ (by omega) hs
  · exact hs
def ofN (l : List Int) : Nat := l.foldl withI 0
theorem ofN_snoc (l : List Int) (x : Int) : ofN (l ++ [x]) = withI (ofN l) x := by simp [ofN]
theorem foldl_lt : ∀ (l : List Int) (s : Nat), s < 18446744073709551616 → l.foldl withI s < 18446744073709551616
  | [], _, h => h
  | x :: l, _, h => foldl_lt l _ (withI_lt x h)
theorem ofN_lt (l : List Int) : ofN l < 18446744073709551616 := foldl_lt l 0 (by decide)
/-- the numbers below k of a set -/
def mems (x k : Nat) : List Nat := (List.range k).filter (hasBit x)
theorem mems_zero (x : Nat) : mems x 0 = [] := rfl
theorem mems_succ (x k : Nat) : mems x (k + 1) = mems x k ++ (if hasBit x k then [k] else []) := by
  unfold mems
  rw [List.range_succ, List.filter_append]
  cases h : hasBit x k <;> simp [h]
theorem mems_yes {x k : Nat} (h : hasBit x k = true) : mems x (k + 1) = mems x k ++ [k] := by rw [mems_succ, h]; rfl
theorem mems_no {x k : Nat} (h : hasBit x k = false) : mems x (k + 1) = mems x k := by rw [mems_succ, h]; exact List.append_nil _
theorem mems_len (x k : Nat) : (mems x k).length ≤ k := by
  have := List.length_filter_le (hasBit x) (List.range k)
  simpa [mems] using this
theorem mems_mem {x k i : Nat} : i ∈ mems x k ↔ i < k ∧ hasBit x i = true := by simp [mems]
/-- what is in any of some sets -/
def anyN (l : List Nat) (ms : List Nat) : Nat := ms.foldl (fun o i => o ||| l.getD i 0) 0
theorem anyN_snoc (l : List Nat) (ms : List Nat) (i : Nat) : anyN l (ms ++ [i]) = anyN l ms ||| l.getD i 0 := by simp [anyN]
theorem or_lt {a b : Nat} (h : a < 18446744073709551616) (k : b < 18446744073709551616) : a ||| b < 18446744073709551616 := Nat.or_lt_two_pow (n := 64) h k
theorem getD_u64 {l : List Nat} (h : ∀ c ∈ l, c < 18446744073709551616) (i : Nat) : l.getD i 0 < 18446744073709551616 := by
  rw [List.getD_eq_getElem?_getD]
  cases hi : l[i]? with
  | none => decide
  | some c => exact h c (List.mem_of_getElem? hi)
theorem anyN_lt {l : List Nat} (hl : ∀ c ∈ l, c < 18446744073709551616) (ms : List Nat) : anyN l ms < 18446744073709551616 := by
  unfold anyN
  have : ∀ (ms : List Nat) (s : Nat), s < 18446744073709551616 → ms.foldl (fun o i => o ||| l.getD i 0) s < 18446744073709551616 := by
    intro ms
    induction ms with
    | nil => exact fun _ h => h
    | cons i ms ih => exact fun s h => ih _ (or_lt h (getD_u64 hl i))
  exact this ms 0 (by decide)
theorem anyN_test (l : List Nat) (ms : List Nat) (n : Nat) : (anyN l ms).testBit n = ms.any (fun i => (l.getD i 0).testBit n) := by
  unfold anyN
  have : ∀ (ms : List Nat) (s : Nat), (ms.foldl (fun o i => o ||| l.getD i 0) s).testBit n = (s.testBit n || ms.any (fun i => (l.getD i 0).testBit n)) := by
    intro ms
    induction ms with
    | nil => intro s; simp
    | cons i ms ih => intro s; rw [List.foldl_cons, ih, Nat.testBit_or, List.any_cons, Bool.or_assoc]
  rw [this, Nat.zero_testBit, Bool.false_or]
/-- is number n in one of the first k sets whose numbers are in x? -/
def anyAt (l : List Nat) (x k n : Nat) : Bool := (List.range k).any (fun i => hasBit x i && hasBit (l.getD i 0) n)
theorem anyAt_zero (l : List Nat) (x n : Nat) : anyAt l x 0 n = false := rfl
theorem anyAt_succ (l : List Nat) (x k n : Nat) : anyAt l x (k + 1) n = (anyAt l x k n || (hasBit x k && hasBit (l.getD k 0) n)) := by
  simp [anyAt, List.range_succ]
/-- numbers below m, each if it is in one of the first k sets -/
def anyR (l : List Nat) (x k : Nat) : Nat → Nat
  | 0 => 0
  | m + 1 => if anyAt l x k m then withBit (anyR l x k m) m else anyR l x k m
theorem anyR_test (l : List Nat) (x k m n : Nat) : (anyR l x k m).testBit n = (decide (n < m) && anyAt l x k n) := by
  induction m with
  | zero => simp [anyR]
  | succ m ih =>
    unfold anyR
    have e : (if anyAt l x k m = true then withBit (anyR l x k m) m else anyR l x k m).testBit n = ((anyR l x k m).testBit n || (decide (m = n) && anyAt l x k m)) := by
      cases h : anyAt l x k m with
      | false => simp
      | true => simp only [if_true]; rw [withBit_or, Nat.testBit_or, pw, Nat.testBit_two_pow, Bool.and_true]
    rw [e, ih]
    by_cases h : m = n
    · subst h; simp
    · by_cases h2 : n < m
      · simp [h2, h, Nat.lt_succ_of_lt h2]
      · have : ¬ n < m + 1 := by omega
        simp [h2, h, this]
theorem anyR_lt (l : List Nat) (x k m : Nat) (hm : m ≤ 64) : anyR l x k m < 18446744073709551616 := by
  induction m with
  | zero => exact (by decide : 0 < 18446744073709551616)
  | succ m ih =>
    have := ih (by omega)
    unfold anyR
    split
    · exact withBit_lt _ _ (by omega) this
    · exact this
theorem low_test (x T i : Nat) : hasBit (x &&& (pw T - 1)) i = (hasBit x i && decide (i < T)) := by
  rw [hasBit_test, hasBit_test, Nat.testBit_and, pw, Nat.testBit_two_pow_sub_one]
/-- both answers of Any are the same -/
theorem any_same (l : List Nat) (x T : Nat) (hl : ∀ c ∈ l, c < 18446744073709551616) (hT : T ≤ 64) : anyN l (mems (x &&& (pw T - 1)) 64) = anyR l x T 64 := by
  apply Nat.eq_of_testBit_eq
  intro n
  rw [anyN_test, anyR_test]
  have key : (mems (x &&& (pw T - 1)) 64).any (fun i => (l.getD i 0).testBit n) = anyAt l x T n := by
    rw [Bool.eq_iff_iff]
    unfold anyAt
    rw [List.any_eq_true, List.any_eq_true]
    constructor
    · rintro ⟨i, hi, h⟩
      obtain ⟨h1, h2⟩ := mems_mem.1 hi
      rw [low_test] at h2
      simp only [Bool.and_eq_true, decide_eq_true_eq] at h2
      exact ⟨i, List.mem_range.2 h2.2, by rw [h2.1, hasBit_test, h]; rfl⟩
    · rintro ⟨i, hi, h⟩
      have hi := List.mem_range.1 hi
      simp only [Bool.and_eq_true] at h
      refine ⟨i, mems_mem.2 ⟨by omega, by rw [low_test, h.1]; simp [hi]⟩, ?_⟩
      rw [← hasBit_test]; exact h.2
  rw [key]
  cases h : anyAt l x T n with
  | false => simp
  | true =>
    have : n < 64 := by
      unfold anyAt at h
      obtain ⟨i, _, hi⟩ := List.any_eq_true.1 h
      simp only [Bool.and_eq_true] at hi
      rw [hasBit_test, hasBit_test] at hi
      exact lt_test (getD_u64 hl i) hi.2
    simp [this]
end Go.Proofs.Ytjienmjpfklgeaa
