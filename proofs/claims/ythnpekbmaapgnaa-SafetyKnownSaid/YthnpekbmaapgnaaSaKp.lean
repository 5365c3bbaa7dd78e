/-
  Layer 29: the document's Cycle, plain.
-/
import Derived.Test.YthnpekbmaapgnaaSaJ
namespace Go.Proofs.Ythnpekbmaapgnaa
open Go.RowKit
set_option maxRecDepth 100000
theorem notFirst (W o T : Nat) (ho : o < 2 ^ W) (hT : T ≤ W) : (o &&& (2 ^ W - (2 ^ T - 1 + 1)) = 0) ↔ o < 2 ^ T := by
  have hx : 2 ^ T - 1 < 2 ^ W := by
    have := Nat.pow_le_pow_right (n := 2) (by omega) hT
    have := Nat.two_pow_pos T
    omega
  have hM : ∀ i, (2 ^ W - (2 ^ T - 1 + 1)).testBit i = (decide (i < W) && !decide (i < T)) := fun i => by
    rw [Nat.testBit_two_pow_sub_succ hx, Nat.testBit_two_pow_sub_one]
  constructor
  · intro h
    refine Nat.lt_pow_two_of_testBit _ fun i hi => ?_
    rcases Nat.lt_or_ge i W with h1 | h1
    · have h2 := congrArg (·.testBit i) h
      simp only [Nat.testBit_and, hM, Nat.zero_testBit] at h2
      simpa [h1, show ¬ i < T by omega] using h2
    · exact Nat.testBit_lt_two_pow (Nat.lt_of_lt_of_le ho (Nat.pow_le_pow_right (by omega) h1))
  · intro h
    refine Nat.eq_of_testBit_eq fun i => ?_
    rw [Nat.testBit_and, hM, Nat.zero_testBit]
    rcases Nat.lt_or_ge i T with h1 | h1
    · simp [h1]
    · rw [Nat.testBit_lt_two_pow (Nat.lt_of_lt_of_le h (Nat.pow_le_pow_right (by omega) h1))]; rfl
theorem notFirst64 (o T : Nat) (ho : o < 18446744073709551616) (hT : T ≤ 64) : (bits .andNot .u64 (o : Int) ((pw T - 1 : Nat) : Int) != 0) = !decide (o < 2 ^ T) := by
  have hp := pw_pos T
  have hle : pw T ≤ 18446744073709551616 := by
    have := Nat.pow_le_pow_right (n := 2) (by omega) hT
    simpa [pw] using this
  rw [u64_andNot_nat _ _ ho (by omega)]
  have h := notFirst 64 o T ho hT
  rw [show 18446744073709551615 - (pw T - 1) = 2 ^ 64 - (2 ^ T - 1 + 1) by simp only [pw]; omega]
  rw [Bool.eq_iff_iff]
  simp only [bne_iff_ne, Bool.not_eq_true', decide_eq_false_iff_not]
  rw [← h]; omega
theorem notFirst32 (o T : Nat) (ho : o < 4294967296) (hT : T ≤ 32) : (bits .andNot .u32 (o : Int) ((pw T - 1 : Nat) : Int) != 0) = !decide (o < 2 ^ T) := by
  have hp := pw_pos T
  have hle : pw T ≤ 4294967296 := by
    have := Nat.pow_le_pow_right (n := 2) (by omega) hT
    simpa [pw] using this
  rw [u32_andNot_nat _ _ ho (by omega)]
  have h := notFirst 32 o T ho hT
  rw [show 4294967295 - (pw T - 1) = 2 ^ 32 - (2 ^ T - 1 + 1) by simp only [pw]; omega]
  rw [Bool.eq_iff_iff]
  simp only [bne_iff_ne, Bool.not_eq_true', decide_eq_false_iff_not]
  rw [← h]; omega
theorem bit_not (q i : Nat) (hq : q < 4294967296) (hi : i ≤ 31) : hasBit (4294967295 - q) i = !hasBit q i := by
  have h := Nat.testBit_two_pow_sub_succ (x := q) (n := 32) (by omega) i
  rw [Nat.testBit_eq_decide_div_mod_eq, Nat.testBit_eq_decide_div_mod_eq, show 2 ^ 32 - (q + 1) = 4294967295 - q by omega, decide_eq_true (show i < 32 by omega), Bool.true_and] at h
  exact h
theorem any_ext {α : Type} {f g : α → Bool} {l : List α} (h : ∀ x ∈ l, f x = g x) : l.any f = l.any g := by
  rw [Bool.eq_iff_iff, List.any_eq_true, List.any_eq_true]
  exact ⟨fun ⟨x, hx, hf⟩ => ⟨x, hx, by rw [← h x hx]; exact hf⟩, fun ⟨x, hx, hf⟩ => ⟨x, hx, by rw [h x hx]; exact hf⟩⟩
theorem tur_lie {q : Nat} {R : List Rt} (hq : q < 4294967296) (hs : ∀ r ∈ R, ∀ n ∈ r.nd, 0 ≤ n.1 ∧ n.1 ≤ 31) : lieS (4294967295 - q) q R = turS q R := by
  unfold lieS turS
  refine any_ext fun r hr => any_ext fun n hn => ?_
  have := hs r hr n hn
  cases hB : n.2 with
  | true => simp
  | false =>
    have h := bit_not q n.1.toNat hq (by omega)
    simp [h]
theorem nd_ok31 {L : Lay} {p k : Nat} (h : mayS L = true) : ∀ r ∈ shR L p k, ∀ n ∈ r.nd, 0 ≤ n.1 ∧ n.1 ≤ 31 := by
  intro r hr n hn
  have o := mayS_rt h r (shR_mem r hr)
  have z := mayS_small h
  unfold Rt.nd at hn
  rcases List.mem_append.1 hn with hn | hn
  · have := belowB_mem o.qb n.1 (List.mem_map.2 ⟨_, hn, rfl⟩); omega
  · have := belowB_mem o.fb n.1 (List.mem_map.2 ⟨_, hn, rfl⟩); omega
theorem out_lt (p n : Nat) : (!decide (p < 2 ^ n)) = !decide (p / pw n = 0) := by
  have : p < 2 ^ n ↔ p / pw n = 0 := by
    rw [show (2 : Nat) ^ n = pw n from rfl, Nat.div_eq_zero_iff]
    have := pw_pos n
    omega
  rw [decide_eq_decide.2 this]
theorem xor_max (q : Nat) (hq : q < 4294967296) : bits .xor .u32 IntKind.u32.max (q : Int) = ((4294967295 - q : Nat) : Int) := by
  rw [show IntKind.u32.max = ((4294967295 : Nat) : Int) from rfl, u32_xor_nat _ _ (by omega) hq]
  congr 1
  refine Nat.eq_of_testBit_eq fun i => ?_
  rw [show 4294967295 - q = 2 ^ 32 - (q + 1) by omega, Nat.testBit_two_pow_sub_succ (by omega), Nat.testBit_xor, show 4294967295 = 2 ^ 32 - 1 from rfl, Nat.testBit_two_pow_sub_one]
  rcases Nat.lt_or_ge i 32 with h | h
  · simp [h]
  · rw [Nat.testBit_lt_two_pow (Nat.lt_of_lt_of_le hq (Nat.pow_le_pow_right (n := 2) (by omega) h))]
    simp [show ¬ i < 32 by omega]
end Go.Proofs.Ythnpekbmaapgnaa
