/-
  Plain laws, no program in sight: how many bits are set, by sums side by side; the lowest bit, by its power.
-/
import Derived.Test.YtkhkaofpmcnllaaDoorBitsL
namespace Go.Proofs.YtkhkaofpmcnllaaDoor
open Go.RowKit

theorem and_byte (b c r s : Nat) (hb : b < 256) (hc : c < 256) : (b + 256 * r) &&& (c + 256 * s) = (b &&& c) + 256 * (r &&& s) := by
  apply Nat.eq_of_testBit_eq
  intro i
  have h1 : b + 256 * r = 2 ^ 8 * r + b := by omega
  have h2 : c + 256 * s = 2 ^ 8 * s + c := by omega
  have h3 : (b &&& c) + 256 * (r &&& s) = 2 ^ 8 * (r &&& s) + (b &&& c) := by omega
  have h4 : b &&& c < 2 ^ 8 := Nat.lt_of_le_of_lt Nat.and_le_left hb
  rw [Nat.testBit_and, h1, h2, h3, Nat.testBit_two_pow_mul_add _ hb, Nat.testBit_two_pow_mul_add _ hc, Nat.testBit_two_pow_mul_add _ h4]
  split
  · rw [Nat.testBit_and]
  · rw [Nat.testBit_and]
/-- k bytes of c each -/
def rep (c : Nat) : Nat → Nat
  | 0 => 0
  | k + 1 => c + 256 * rep c k
def g1 (k x : Nat) : Nat := (x / 2 &&& rep 85 k) + (x &&& rep 85 k)
def g2 (k x : Nat) : Nat := (x / 4 &&& rep 51 k) + (x &&& rep 51 k)
def g3 (k x : Nat) : Nat := (x / 16 + x) &&& rep 15 k
def b1 (b : Nat) : Nat := (b / 2 &&& 85) + (b &&& 85)
def b2 (b : Nat) : Nat := (b1 b / 4 &&& 51) + (b1 b &&& 51)
def b3 (b : Nat) : Nat := (b2 b / 16 + b2 b) &&& 15
theorem b1_bits : ∀ b : Fin 256, ∀ q : Fin 2, ((b.1 / 2 + 128 * q.1) &&& 85) = (b.1 / 2 &&& 85) := by decide +kernel
theorem b1_lt : ∀ b : Fin 256, b1 b.1 < 256 := by decide +kernel
theorem b2_bits : ∀ b : Fin 256, ∀ q : Fin 4, ((b1 b.1 / 4 + 64 * q.1) &&& 51) = (b1 b.1 / 4 &&& 51) := by decide +kernel
theorem b2_le : ∀ b : Fin 256, b2 b.1 ≤ 68 ∧ b2 b.1 % 16 ≤ 4 := by decide +kernel
theorem b3_bits : ∀ b : Fin 256, ∀ q : Fin 5, ((b2 b.1 / 16 + 16 * q.1 + b2 b.1) &&& 15) = b3 b.1 := by decide +kernel
theorem b3_count : ∀ b : Fin 256, b3 b.1 = (mems b.1 8).length := by decide +kernel
theorem b3_le (b : Nat) (hb : b < 256) : b3 b ≤ 8 := by rw [b3_count ⟨b, hb⟩]; exact mems_len b 8
theorem g1_succ (k b r : Nat) (hb : b < 256) : g1 (k + 1) (b + 256 * r) = b1 b + 256 * g1 k r := by
  have e1 : (b + 256 * r) / 2 = (b / 2 + 128 * (r % 2)) + 256 * (r / 2) := by omega
  have hx := b1_bits ⟨b, hb⟩ ⟨r % 2, by omega⟩
  dsimp only at hx
  unfold g1 b1
  rw [e1, rep, and_byte _ _ _ _ (by omega) (by omega), and_byte _ _ _ _ hb (by omega), hx]
  omega
theorem g2_succ (k b r : Nat) (hb : b < 256) : g2 (k + 1) (b1 b + 256 * r) = b2 b + 256 * g2 k r := by
  have hl := b1_lt ⟨b, hb⟩
  have hx := b2_bits ⟨b, hb⟩ ⟨r % 4, by omega⟩
  unfold g2 b2
  dsimp only at hl hx
  generalize b1 b = c at *
  have e1 : (c + 256 * r) / 4 = (c / 4 + 64 * (r % 4)) + 256 * (r / 4) := by omega
  rw [e1, rep, and_byte _ _ _ _ (by omega) (by omega), and_byte _ _ _ _ hl (by omega), hx]
  omega
theorem g3_succ (k b r : Nat) (hb : b < 256) (hr : r % 16 ≤ 4) : g3 (k + 1) (b2 b + 256 * r) = b3 b + 256 * g3 k r := by
  obtain ⟨hl, _⟩ := b2_le ⟨b, hb⟩
  have hx := b3_bits ⟨b, hb⟩ ⟨r % 16, by omega⟩
  dsimp only at hl hx
  unfold g3
  rw [← hx]
  generalize b2 b = c at *
  have e1 : (c + 256 * r) / 16 + (c + 256 * r) = (c / 16 + 16 * (r % 16) + c) + 256 * (r / 16 + r) := by omega
  rw [e1, rep, and_byte _ _ _ _ (by omega) (by omega)]
theorem g2_nib (k x : Nat) : g2 k (g1 k x) % 16 ≤ 4 := by
  cases k with
  | zero => simp [g2, rep]
  | succ k =>
    have hb : x % 256 < 256 := by omega
    have e : x = x % 256 + 256 * (x / 256) := by omega
    rw [e, g1_succ _ _ _ hb, g2_succ _ _ _ hb]
    have := (b2_le ⟨x % 256, hb⟩).2
    dsimp only at this
    omega
/-- the bits of each byte, counted -/
def bytesum (k x : Nat) : Nat := g3 k (g2 k (g1 k x))
theorem bytesum_succ (k x : Nat) : bytesum (k + 1) x = (mems (x % 256) 8).length + 256 * bytesum k (x / 256) := by
  have hb : x % 256 < 256 := by omega
  have e : x = x % 256 + 256 * (x / 256) := by omega
  have h : bytesum (k + 1) (x % 256 + 256 * (x / 256)) = b3 (x % 256) + 256 * bytesum k (x / 256) := by
    unfold bytesum
    rw [g1_succ _ _ _ hb, g2_succ _ _ _ hb, g3_succ _ _ _ hb (g2_nib _ _)]
  rw [← e] at h
  rw [h, b3_count ⟨x % 256, hb⟩]
theorem hasBit_low (x i : Nat) (hi : i < 8) : hasBit x i = hasBit (x % 256) i := by
  rw [hasBit_test, hasBit_test, show (256 : Nat) = 2 ^ 8 from rfl, Nat.testBit_mod_two_pow]
  simp [hi]
theorem hasBit_high (x i : Nat) : hasBit x (8 + i) = hasBit (x / 256) i := by
  rw [hasBit_test, hasBit_test, show (256 : Nat) = 2 ^ 8 from rfl, Nat.testBit_div_two_pow, Nat.add_comm]
theorem mems_add (x k : Nat) : (mems x (8 + k)).length = (mems (x % 256) 8).length + (mems (x / 256) k).length := by
  induction k with
  | zero =>
    rw [Nat.add_zero, mems_zero]
    have : mems x 8 = mems (x % 256) 8 := by
      unfold mems
      apply List.filter_congr
      intro i hi
      exact hasBit_low x i (by simpa using hi)
    rw [this]; rfl
  | succ k ih =>
    rw [← Nat.add_assoc]
    cases h : hasBit (x / 256) k with
    | false => rw [mems_no h, mems_no (by rw [hasBit_high]; exact h), ih]
    | true => rw [mems_yes h, mems_yes (by rw [hasBit_high]; exact h), List.length_append, List.length_append, ih]; simp; omega
theorem mems_nil (x : Nat) : (mems x 0).length = 0 := rfl
/-- the sum of the bytes, as the code adds them -/
def fold3 (y : Nat) : Nat :=
  let z1 := (y + y / 256) % 18446744073709551616
  let z2 := (z1 + z1 / 65536) % 18446744073709551616
  (z2 + z2 / 4294967296) % 18446744073709551616
theorem div_first (B p t : Nat) (hB : 0 < B) (h : p < B) : (p + B * t) / B = t := by
  rw [Nat.add_mul_div_left _ _ hB, Nat.div_eq_of_lt h, Nat.zero_add]
theorem div_second (p q t : Nat) (h : p < 65536) (k : q < 65536) : (p + 65536 * (q + 65536 * t)) / 4294967296 = t := by
  rw [show p + 65536 * (q + 65536 * t) = (p + 65536 * q) + 4294967296 * t by omega, div_first _ _ _ (by omega) (by omega)]
theorem fold_mid (A0 A1 A2 A3 : Nat) (h0 : A0 ≤ 4112) (h1 : A1 ≤ 4112) (h2 : A2 ≤ 4112) (h3 : A3 ≤ 4112) (z1 : Nat) (hz : z1 = A0 + 65536 * (A1 + 65536 * (A2 + 65536 * A3))) :
    (let z2 := (z1 + z1 / 65536) % 18446744073709551616
     (z2 + z2 / 4294967296) % 18446744073709551616) % 128 = (A0 + A1 + A2 + A3) % 128 := by
  dsimp only
  have e1 : (z1 + z1 / 65536) % 18446744073709551616 = (A0 + A1) + 65536 * ((A1 + A2) + 65536 * ((A2 + A3) + 65536 * A3)) := by
    have : z1 / 65536 = A1 + 65536 * (A2 + 65536 * A3) := by rw [hz]; exact div_first _ _ _ (by omega) (by omega)
    rw [this, hz, Nat.mod_eq_of_lt (by omega)]; omega
  rw [e1, div_second _ _ _ (by omega) (by omega)]
  have e2 : (A0 + A1) + 65536 * ((A1 + A2) + 65536 * ((A2 + A3) + 65536 * A3)) + ((A2 + A3) + 65536 * A3) = (A0 + A1 + A2 + A3) + 128 * (512 * ((A1 + A2 + A3) + 65536 * ((A2 + A3) + 65536 * A3))) := by omega
  have e3 : ((A0 + A1 + A2 + A3) + 128 * (512 * ((A1 + A2 + A3) + 65536 * ((A2 + A3) + 65536 * A3)))) % 18446744073709551616 = (A0 + A1 + A2 + A3) + 128 * (512 * ((A1 + A2 + A3) + 65536 * ((A2 + A3) + 65536 * A3))) := Nat.mod_eq_of_lt (by omega)
  rw [e2, e3, Nat.add_mul_mod_self_left]
theorem fold3_sum (p0 p1 p2 p3 p4 p5 p6 p7 : Nat) (h0 : p0 ≤ 8) (h1 : p1 ≤ 8) (h2 : p2 ≤ 8) (h3 : p3 ≤ 8) (h4 : p4 ≤ 8) (h5 : p5 ≤ 8) (h6 : p6 ≤ 8) (h7 : p7 ≤ 8) :
    fold3 (p0 + 256 * (p1 + 256 * (p2 + 256 * (p3 + 256 * (p4 + 256 * (p5 + 256 * (p6 + 256 * p7))))))) % 128 = p0 + p1 + p2 + p3 + p4 + p5 + p6 + p7 := by
  have e1 : ((p0 + 256 * (p1 + 256 * (p2 + 256 * (p3 + 256 * (p4 + 256 * (p5 + 256 * (p6 + 256 * p7))))))) + (p0 + 256 * (p1 + 256 * (p2 + 256 * (p3 + 256 * (p4 + 256 * (p5 + 256 * (p6 + 256 * p7))))))) / 256) % 18446744073709551616 =
      ((p0 + p1) + 256 * (p1 + p2)) + 65536 * (((p2 + p3) + 256 * (p3 + p4)) + 65536 * (((p4 + p5) + 256 * (p5 + p6)) + 65536 * ((p6 + p7) + 256 * p7))) := by
    rw [div_first _ _ _ (by omega) (by omega), Nat.mod_eq_of_lt (by omega)]; omega
  have := fold_mid ((p0 + p1) + 256 * (p1 + p2)) ((p2 + p3) + 256 * (p3 + p4)) ((p4 + p5) + 256 * (p5 + p6)) ((p6 + p7) + 256 * p7) (by omega) (by omega) (by omega) (by omega) _ e1
  have e3 : ((p0 + p1) + 256 * (p1 + p2)) + ((p2 + p3) + 256 * (p3 + p4)) + ((p4 + p5) + 256 * (p5 + p6)) + ((p6 + p7) + 256 * p7) = (p0 + p1 + p2 + p3 + p4 + p5 + p6 + p7) + 128 * (2 * (p1 + p2 + p3 + p4 + p5 + p6 + p7)) := by omega
  rw [e3, Nat.add_mul_mod_self_left, Nat.mod_eq_of_lt (show p0 + p1 + p2 + p3 + p4 + p5 + p6 + p7 < 128 by omega)] at this
  exact this
theorem count_same (x : Nat) : fold3 (bytesum 8 x) % 128 = (mems x 64).length := by
  rw [show mems x 64 = mems x (8 + 56) from rfl, mems_add, show mems (x / 256) 56 = mems (x / 256) (8 + 48) from rfl, mems_add, show mems (x / 256 / 256) 48 = mems (x / 256 / 256) (8 + 40) from rfl, mems_add,
    show mems (x / 256 / 256 / 256) 40 = mems (x / 256 / 256 / 256) (8 + 32) from rfl, mems_add, show mems (x / 256 / 256 / 256 / 256) 32 = mems (x / 256 / 256 / 256 / 256) (8 + 24) from rfl, mems_add,
    show mems (x / 256 / 256 / 256 / 256 / 256) 24 = mems (x / 256 / 256 / 256 / 256 / 256) (8 + 16) from rfl, mems_add, show mems (x / 256 / 256 / 256 / 256 / 256 / 256) 16 = mems (x / 256 / 256 / 256 / 256 / 256 / 256) (8 + 8) from rfl, mems_add,
    show mems (x / 256 / 256 / 256 / 256 / 256 / 256 / 256) 8 = mems (x / 256 / 256 / 256 / 256 / 256 / 256 / 256) (8 + 0) from rfl, mems_add, mems_nil]
  rw [bytesum_succ, bytesum_succ, bytesum_succ, bytesum_succ, bytesum_succ, bytesum_succ, bytesum_succ, bytesum_succ, show bytesum 0 (x / 256 / 256 / 256 / 256 / 256 / 256 / 256 / 256) = 0 by simp [bytesum, g3, rep]]
  rw [Nat.mul_zero, Nat.add_zero, fold3_sum _ _ _ _ _ _ _ _ (mems_len _ _) (mems_len _ _) (mems_len _ _) (mems_len _ _) (mems_len _ _) (mems_len _ _) (mems_len _ _) (mems_len _ _)]
  omega
end Go.Proofs.YtkhkaofpmcnllaaDoor
