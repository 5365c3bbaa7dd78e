/-
  bits.Count and bits.Lowest: what they answer; the table that Lowest reads.
-/
import Derived.Test.YtkhkaofpmcnllaaDoorBitsQ
namespace Go.Proofs.YtkhkaofpmcnllaaDoor
open Go.RowKit
attribute [local irreducible] pw hasBit withBit woBit mems ofN withI anyN anyAt anyR

/-- the table -/
def tab : List Nat := [0, 1, 56, 2, 57, 49, 28, 3, 61, 58, 42, 50, 38, 29, 17, 4, 62, 47, 59, 36, 45, 43, 51, 22, 53, 39, 33, 30, 24, 18, 12, 5, 63, 55, 48, 27, 60, 41, 37, 16, 46, 35, 44, 21, 52, 32, 23, 11, 54, 26, 40, 15, 34, 20, 31, 10, 25, 14, 19, 9, 13, 8, 7, 6]
theorem tab_right : ∀ m : Fin 64, tab.getD ((2 ^ m.1 * 285870213051353865 % 18446744073709551616) / 288230376151711744) 0 = m.1 := by decide +kernel
theorem tab_small : ∀ m : Fin 64, (2 ^ m.1 * 285870213051353865 % 18446744073709551616) / 288230376151711744 < 64 := by decide +kernel
/-- the table lies in its place -/
def TabAt (w : World) : Prop := ∀ i, i < 64 → w.cell? ⟨0, i, none⟩ = some (.int .u8 ((tab.getD i 0 : Nat) : Int))
theorem TabAt.below {w w' : World} (hb : Below w.heap.size w w') (h : TabAt w) : TabAt w' := fun i hi => cell_later hb (h i hi)
/-- number m is the least one -/
def IsLow (x m : Nat) : Prop := m < 64 ∧ hasBit x m = true ∧ ∀ i, i < m → hasBit x i = false
theorem low_find (x : Nat) : ∀ k, (∃ i, i < k ∧ hasBit x i = true) → ∃ m, m < k ∧ hasBit x m = true ∧ ∀ i, i < m → hasBit x i = false := by
  intro k
  induction k with
  | zero => rintro ⟨i, hi, _⟩; omega
  | succ k ih =>
    rintro ⟨i, hi, hb⟩
    by_cases h : ∃ i, i < k ∧ hasBit x i = true
    · obtain ⟨m, h1, h2⟩ := ih h
      exact ⟨m, by omega, h2⟩
    · refine ⟨k, by omega, ?_, fun j hj => ?_⟩
      · by_cases hik : i = k
        · rw [← hik]; exact hb
        · exact absurd ⟨i, by omega, hb⟩ h
      · cases hj2 : hasBit x j with
        | false => rfl
        | true => exact absurd ⟨j, hj, hj2⟩ h
theorem isLow_of (x : Nat) (h0 : x ≠ 0) (hx : x < 18446744073709551616) : ∃ m, IsLow x m := by
  obtain ⟨i, hi⟩ := Nat.exists_testBit_of_ne_zero h0
  exact low_find x 64 ⟨i, lt_test hx hi, by rw [hasBit_test]; exact hi⟩
theorem mems_none (x m : Nat) (h : ∀ i, i < m → hasBit x i = false) : mems x m = [] := by
  induction m with
  | zero => exact mems_zero x
  | succ m ih => rw [mems_no (h m (by omega)), ih (fun i hi => h i (by omega))]
theorem mems_from (x m : Nat) (hb : hasBit x m = true) (h : ∀ i, i < m → hasBit x i = false) (j : Nat) : ∃ r, mems x (m + 1 + j) = m :: r := by
  induction j with
  | zero => exact ⟨[], by rw [Nat.add_zero, mems_yes hb, mems_none x m h]; rfl⟩
  | succ j ih =>
    obtain ⟨r, hr⟩ := ih
    cases hk : hasBit x (m + 1 + j) with
    | false => exact ⟨r, by rw [← Nat.add_assoc, mems_no hk, hr]⟩
    | true => exact ⟨r ++ [m + 1 + j], by rw [← Nat.add_assoc, mems_yes hk, hr]; rfl⟩
theorem lowN_is {x m : Nat} (h : IsLow x m) : lowN x = m := by
  obtain ⟨r, hr⟩ := mems_from x m h.2.1 h.2.2 (63 - m)
  have e : m + 1 + (63 - m) = 64 := by have := h.1; omega
  rw [e] at hr
  unfold lowN
  rw [hr]; rfl
theorem hasBit_zero (i : Nat) : hasBit 0 i = false := by rw [hasBit_test]; exact Nat.zero_testBit i
theorem lowN_zero : lowN 0 = 64 := by unfold lowN; rw [mems_none 0 64 (fun i _ => hasBit_zero i)]; rfl
theorem low_form {x m : Nat} (h : IsLow x m) : ∃ q, x = 2 ^ (m + 1) * q + 2 ^ m := by
  obtain ⟨_, h2, h3⟩ := h
  have e1 : x % 2 ^ m = 0 := by
    apply Nat.eq_of_testBit_eq
    intro i
    rw [Nat.testBit_mod_two_pow, Nat.zero_testBit]
    by_cases hi : i < m
    · have := h3 i hi
      rw [hasBit_test] at this
      simp [this]
    · simp [hi]
  have e2 : x / 2 ^ m % 2 = 1 := by
    unfold hasBit pw at h2
    exact of_decide_eq_true h2
  refine ⟨x / 2 ^ m / 2, ?_⟩
  have e3 := Nat.div_add_mod x (2 ^ m)
  have e4 := Nat.div_add_mod (x / 2 ^ m) 2
  rw [e1, Nat.add_zero] at e3
  rw [e2] at e4
  generalize x / 2 ^ m = y at *
  rw [← e3, Nat.pow_succ, Nat.mul_assoc, ← Nat.mul_succ]
  congr 1
  omega
theorem low_and {x m : Nat} (h : IsLow x m) (hx : x < 18446744073709551616) : x &&& (18446744073709551616 - x) = pw m := by
  obtain ⟨q, hq⟩ := low_form h
  have hm := h.1
  have hp := Nat.two_pow_pos m
  have hp2 : 2 ^ m < 2 ^ (m + 1) := by rw [Nat.pow_succ]; omega
  have hy : x - 1 = 2 ^ (m + 1) * q + (2 ^ m - 1) := by omega
  have hx1 : x - 1 < 2 ^ 64 := by omega
  have hx0 : 0 < x := by omega
  have hz : 18446744073709551616 - x = 2 ^ 64 - ((x - 1) + 1) := by omega
  apply Nat.eq_of_testBit_eq
  intro i
  rw [Nat.testBit_and, hz, Nat.testBit_two_pow_sub_succ hx1, hy, pw, Nat.testBit_two_pow]
  have ex : x.testBit i = if i < m + 1 then (2 ^ m).testBit i else q.testBit (i - (m + 1)) := by rw [hq]; exact Nat.testBit_two_pow_mul_add q hp2 i
  rw [ex, Nat.testBit_two_pow_mul_add q (show 2 ^ m - 1 < 2 ^ (m + 1) by omega), Nat.testBit_two_pow, Nat.testBit_two_pow_sub_one]
  by_cases h1 : i < m + 1
  · rw [if_pos h1, if_pos h1]
    by_cases h2 : m = i
    · subst h2; simp; omega
    · simp [h2]
  · rw [if_neg h1, if_neg h1]
    have h2 : ¬ m = i := by omega
    cases q.testBit (i - (m + 1)) <;> simp [h2]
theorem tz_any (x : Nat) (w : World) (hx : x < 18446744073709551616) (ht : TabAt w) :
    Calls Tryd.prog 35 #[.int .u64 x] w fun e w' => e = .returned (.int .i64 ((lowN x : Nat) : Int)) ∧ w = w' := by
  by_cases h0 : x = 0
  · subst h0
    have HL := Lib.hid lowN_zero
    go_enter Tryd.func35, Tryd.ntmps35
    go_wp2_with fail
    go_ret
    exact ⟨by rw [HL.out]; rfl, rfl⟩
  · obtain ⟨m, hm⟩ := isLow_of x h0 hx
    have HL := Lib.hid (lowN_is hm)
    have hm64 := hm.1
    have hx0 : ((x : Int) == 0) = false := by rw [beq_eq_false_iff_ne]; omega
    have hpl := pw_lt64 (n := m) (by omega)
    obtain ⟨y, hy⟩ : ∃ y, y = 18446744073709551616 - x := ⟨_, rfl⟩
    have f1 : IntKind.u64.wrap (-(x : Int)) = (y : Int) := by rw [IntKind.wrap_u64]; omega
    have f2 : bits .and .u64 (x : Int) (y : Int) = ((pw m : Nat) : Int) := by
      rw [u64_and_nat x y hx (by omega), hy, low_and hm hx]
    obtain ⟨q, hq⟩ : ∃ q, q = pw m * 285870213051353865 % 18446744073709551616 := ⟨_, rfl⟩
    have f3 : IntKind.u64.wrap (((pw m : Nat) : Int) * 285870213051353865) = (q : Int) := by rw [IntKind.wrap_u64, hq]; omega
    obtain ⟨r, hr⟩ : ∃ r, r = q / 288230376151711744 := ⟨_, rfl⟩
    have f4 : (q : Int) / 288230376151711744 = (r : Int) := by omega
    have hr64 : r < 64 := by
      have := tab_small ⟨m, hm64⟩
      dsimp only at this
      rw [hr, hq, pw_eq]; exact this
    have htab : tab.getD r 0 = m := by
      have := tab_right ⟨m, hm64⟩
      dsimp only at this
      rw [hr, hq, pw_eq]; exact this
    have z := ht r hr64
    rw [htab] at z
    have d1 : (r : Int) < 64 := by omega
    have d2 : (0 : Int) ≤ r := by omega
    have d3 : IntKind.i64.wrap (m : Int) = m := by rw [IntKind.wrap_i64]; omega
    clear hm hpl hy hq hr htab ht h0
    go_enter Tryd.func35, Tryd.ntmps35
    go_wp2_with fail
    go_ret
    refine ⟨?_, rfl⟩
    rw [HL.out]; rfl
theorem wu (z : Int) (a : Nat) (h : a < 18446744073709551616) (e : z = (a : Int)) : IntKind.u64.wrap z = (a : Int) := by rw [IntKind.wrap_u64, e]; omega
theorem wi (z : Nat) (h : z < 9223372036854775808) : IntKind.i64.wrap (z : Int) = (z : Int) := by rw [IntKind.wrap_i64]; omega
theorem wi64 (z : Nat) (h : z < 9223372036854775808) : wrap64 (z : Int) = (z : Int) := by unfold wrap64; omega
theorem and127 (z : Nat) (h : z < 9223372036854775808) : bits .and .i64 (z : Int) 127 = ((z % 128 : Nat) : Int) := by
  rw [show (127 : Int) = ((127 : Nat) : Int) from rfl, i64_and_nat z 127 h (by omega), show 127 = 2 ^ 7 - 1 from rfl, Nat.and_two_pow_sub_one_eq_mod]
theorem dbl (a k C : Nat) (h : a ≤ C) : a + a / k ≤ 2 * C := by
  have := Nat.div_le_self a k
  omega
theorem add_div (a k : Nat) (K : Int) (hK : K = (k : Int)) : ((a : Int) + (a : Int) / K) = ((a + a / k : Nat) : Int) := by rw [hK]; rw [Int.natCast_add, Int.natCast_ediv]
theorem div_add (a k : Nat) (K : Int) (hK : K = (k : Int)) : ((a : Int) / K + (a : Int)) = ((a / k + a : Nat) : Int) := by rw [hK]; rw [Int.natCast_add, Int.natCast_ediv]
theorem fold3_plain (y z1 z2 z3 : Nat) (h1 : z1 = y + y / 256) (h2 : z2 = z1 + z1 / 65536) (h3 : z3 = z2 + z2 / 4294967296) (k1 : z1 < 18446744073709551616) (k2 : z2 < 18446744073709551616) (k3 : z3 < 18446744073709551616) : fold3 y = z3 := by
  unfold fold3
  dsimp only
  rw [← h1, Nat.mod_eq_of_lt k1, ← h2, Nat.mod_eq_of_lt k2, ← h3, Nat.mod_eq_of_lt k3]
theorem and_u64 (a b c : Nat) (ha : a < 18446744073709551616) (hb : b < 18446744073709551616) (h : c = a &&& b) : bits .and .u64 (a : Int) (b : Int) = (c : Int) := by rw [h, u64_and_nat a b ha hb]
theorem rep85 : rep 85 8 = 6148914691236517205 := by decide
theorem rep51 : rep 51 8 = 3689348814741910323 := by decide
theorem rep15 : rep 15 8 = 1085102592571150095 := by decide
set_option maxHeartbeats 1000000 in
theorem ones_any (x : Nat) (w : World) (hx : x < 18446744073709551616) :
    Calls Tryd.prog 34 #[.int .u64 x] w fun e w' => e = .returned (.int .i64 (((mems x 64).length : Nat) : Int)) ∧ w = w' := by
  obtain ⟨p1, hp1⟩ : ∃ p, p = x / 2 &&& 6148914691236517205 := ⟨_, rfl⟩
  obtain ⟨p2, hp2⟩ : ∃ p, p = x &&& 6148914691236517205 := ⟨_, rfl⟩
  have l1 : p1 ≤ 6148914691236517205 := by rw [hp1]; exact Nat.and_le_right
  have l2 : p2 ≤ 6148914691236517205 := by rw [hp2]; exact Nat.and_le_right
  obtain ⟨y1, hy1⟩ : ∃ y, y = p1 + p2 := ⟨_, rfl⟩
  obtain ⟨p3, hp3⟩ : ∃ p, p = y1 / 4 &&& 3689348814741910323 := ⟨_, rfl⟩
  obtain ⟨p4, hp4⟩ : ∃ p, p = y1 &&& 3689348814741910323 := ⟨_, rfl⟩
  have l3 : p3 ≤ 3689348814741910323 := by rw [hp3]; exact Nat.and_le_right
  have l4 : p4 ≤ 3689348814741910323 := by rw [hp4]; exact Nat.and_le_right
  obtain ⟨y2, hy2⟩ : ∃ y, y = p3 + p4 := ⟨_, rfl⟩
  obtain ⟨s3, hs3⟩ : ∃ y, y = y2 / 16 + y2 := ⟨_, rfl⟩
  obtain ⟨y3, hy3⟩ : ∃ p, p = s3 &&& 1085102592571150095 := ⟨_, rfl⟩
  have l5 : y3 ≤ 1085102592571150095 := by rw [hy3]; exact Nat.and_le_right
  obtain ⟨z1, hz1⟩ : ∃ z, z = y3 + y3 / 256 := ⟨_, rfl⟩
  obtain ⟨z2, hz2⟩ : ∃ z, z = z1 + z1 / 65536 := ⟨_, rfl⟩
  obtain ⟨z3, hz3⟩ : ∃ z, z = z2 + z2 / 4294967296 := ⟨_, rfl⟩
  have l6 : y1 ≤ 12297829382473034410 := by rw [hy1]; exact Nat.add_le_add l1 l2
  have l7 : y2 ≤ 7378697629483820646 := by rw [hy2]; exact Nat.add_le_add l3 l4
  have l8 : s3 ≤ 14757395258967641292 := by rw [hs3, Nat.add_comm]; exact dbl y2 16 _ l7
  have k1 : z1 ≤ 2170205185142300190 := by rw [hz1]; exact dbl y3 256 _ l5
  have k2 : z2 ≤ 4340410370284600380 := by rw [hz2]; exact dbl z1 65536 _ k1
  have k3 : z3 ≤ 8680820740569200760 := by rw [hz3]; exact dbl z2 4294967296 _ k2
  have HR : Hid (z3 % 128 = (mems x 64).length) := Lib.hid (by
    rw [← count_same x]
    have e : bytesum 8 x = y3 := by
      unfold bytesum g3 g2 g1
      rw [rep85, rep51, rep15, ← hp1, ← hp2, ← hy1, ← hp3, ← hp4, ← hy2, ← hs3, ← hy3]
    rw [e, fold3_plain y3 z1 z2 z3 hz1 hz2 hz3 (Nat.lt_of_le_of_lt k1 (by decide)) (Nat.lt_of_le_of_lt k2 (by decide)) (Nat.lt_of_le_of_lt k3 (by decide))])
  have hx2 : x / 2 < 18446744073709551616 := Nat.lt_of_le_of_lt (Nat.div_le_self _ _) hx
  have e1 : bits .and .u64 ((x : Int) / 2) 6148914691236517205 = (p1 : Int) := and_u64 (x / 2) 6148914691236517205 p1 hx2 (by decide) hp1
  have e2 : bits .and .u64 (x : Int) 6148914691236517205 = (p2 : Int) := and_u64 x 6148914691236517205 p2 hx (by decide) hp2
  have e3 : IntKind.u64.wrap ((p1 : Int) + (p2 : Int)) = (y1 : Int) := wu _ y1 (Nat.lt_of_le_of_lt l6 (by decide)) (by rw [hy1, Int.natCast_add])
  have e4 : bits .and .u64 ((y1 : Int) / 4) 3689348814741910323 = (p3 : Int) := and_u64 (y1 / 4) 3689348814741910323 p3 (Nat.lt_of_le_of_lt (Nat.div_le_self _ _) (Nat.lt_of_le_of_lt l6 (by decide))) (by decide) hp3
  have e5 : bits .and .u64 (y1 : Int) 3689348814741910323 = (p4 : Int) := and_u64 y1 3689348814741910323 p4 (Nat.lt_of_le_of_lt l6 (by decide)) (by decide) hp4
  have e6 : IntKind.u64.wrap ((p3 : Int) + (p4 : Int)) = (y2 : Int) := wu _ y2 (Nat.lt_of_le_of_lt l7 (by decide)) (by rw [hy2, Int.natCast_add])
  have e7 : IntKind.u64.wrap ((y2 : Int) / 16 + (y2 : Int)) = (s3 : Int) := wu _ s3 (Nat.lt_of_le_of_lt l8 (by decide)) (by rw [hs3]; exact div_add y2 16 16 rfl)
  have e8 : bits .and .u64 (s3 : Int) 1085102592571150095 = (y3 : Int) := and_u64 s3 1085102592571150095 y3 (Nat.lt_of_le_of_lt l8 (by decide)) (by decide) hy3
  have e9 : IntKind.u64.wrap ((y3 : Int) + (y3 : Int) / 256) = (z1 : Int) := wu _ z1 (Nat.lt_of_le_of_lt k1 (by decide)) (by rw [hz1]; exact add_div y3 256 256 rfl)
  have e10 : IntKind.u64.wrap ((z1 : Int) + (z1 : Int) / 65536) = (z2 : Int) := wu _ z2 (Nat.lt_of_le_of_lt k2 (by decide)) (by rw [hz2]; exact add_div z1 65536 65536 rfl)
  have e11 : IntKind.u64.wrap ((z2 : Int) + (z2 : Int) / 4294967296) = (z3 : Int) := wu _ z3 (Nat.lt_of_le_of_lt k3 (by decide)) (by rw [hz3]; exact add_div z2 4294967296 4294967296 rfl)
  have hz9 : z3 < 9223372036854775808 := Nat.lt_of_le_of_lt k3 (by decide)
  clear hp1 hp2 l1 l2 hy1 hp3 hp4 l3 l4 hy2 hs3 hy3 l5 hz1 hz2 hz3 k1 k2 k3 hx l6 l7 l8 hx2
  have e12 := wi64 z3 hz9
  have e12' := wi z3 hz9
  have e13 := and127 z3 hz9
  obtain ⟨v, hv⟩ : ∃ v, v = z3 % 128 := ⟨_, rfl⟩
  rw [← hv] at e13 HR
  clear hv hz9
  go_enter Tryd.func34, Tryd.ntmps34
  go_wp2_with fail
  go_ret
  refine ⟨?_, rfl⟩
  rw [← HR.out]; rfl
theorem count_any (x : Nat) (w : World) (hx : x < 18446744073709551616) :
    Calls Tryd.prog 22 #[.int .u64 x] w fun e w' => e = .returned (.int .i64 (((mems x 64).length : Nat) : Int)) ∧ w = w' := by
  obtain ⟨v, hv⟩ : ∃ v, v = (mems x 64).length := ⟨_, rfl⟩
  have HC := ones_any x
  rw [← hv] at HC ⊢
  clear hv
  go_enter Tryd.func22, Tryd.ntmps22
  go_wp2_with fail
  refine (HC _ hx).mono ?_
  rintro e w' ⟨rfl, rfl⟩
  go_wp2_with fail
  go_ret
  exact ⟨rfl, rfl⟩
theorem low_any (x : Nat) (w : World) (hx : x < 18446744073709551616) (ht : TabAt w) :
    Calls Tryd.prog 24 #[.int .u64 x] w fun e w' => e = .returned (.int .i64 ((lowN x : Nat) : Int)) ∧ w = w' := by
  obtain ⟨v, hv⟩ : ∃ v, v = lowN x := ⟨_, rfl⟩
  have HC := tz_any x
  rw [← hv] at HC ⊢
  clear hv
  go_enter Tryd.func24, Tryd.ntmps24
  go_wp2_with fail
  refine (HC _ hx ht).mono ?_
  rintro e w' ⟨rfl, rfl⟩
  go_wp2_with fail
  go_ret
  exact ⟨rfl, rfl⟩
end Go.Proofs.YtkhkaofpmcnllaaDoor
