/-
  The walk of the statement CrcNear of chapter 1.
-/
import Derived.Test.YtegkogbkoealaaaCrcLawsE
import Derived.Test.YtegkogbkoealaaaAppend
namespace Go.Proofs.Ytegkogbkoealaaa
open Go.RowKit

/-- what i bytes that are unlike, the bytes of N, do to the check, k bytes behind the five -/
def Crc.part (k N : Nat) : Nat → Nat
  | 0 => 0
  | i + 1 => Crc.part k N i ^^^ Crc.it Crc.ah8 (k + 5 - i) (N / 256 ^ i % 256)
theorem Crc.part_zero (k N : Nat) : Crc.part k N 0 = 0 := rfl
theorem Crc.part_succ (k N i : Nat) : Crc.part k N (i + 1) = Crc.part k N i ^^^ Crc.it Crc.ah8 (k + 5 - i) (N / 256 ^ i % 256) := rfl
theorem Crc.it_split (j N : Nat) : Crc.it Crc.ah8 (j + 1) N = Crc.it Crc.ah8 (j + 1) (N % 256) ^^^ Crc.it Crc.ah8 j (N / 256) := by
  have e : N = N % 256 ^^^ 256 * (N / 256) := by
    rw [Nat.xor_comm]
    refine Nat.eq_of_testBit_eq fun i => ?_
    rw [Nat.testBit_xor, show 256 = 2 ^ 8 from rfl, Nat.testBit_two_pow_mul, Nat.testBit_mod_two_pow, Nat.testBit_div_two_pow]
    rcases Nat.lt_or_ge i 8 with h | h
    · simp [show ¬ 8 ≤ i by omega, h]
    · simp [h, show ¬ i < 8 by omega]
  conv => lhs; rw [e]
  rw [Crc.it_ah8_xor]
  congr 1
  show Crc.it Crc.ah8 j (Crc.ah8 (256 * (N / 256))) = _
  rw [Crc.ah8_high]
theorem Crc.part_all (k N : Nat) (h : N < 1099511627776) : Crc.part k N 5 = Crc.it Crc.ah8 (k + 5) N := by
  simp only [Crc.part, Nat.pow_zero, Nat.div_one, Nat.pow_one, Nat.zero_xor]
  rw [Crc.it_split (k + 4) N, Crc.it_split (k + 3) (N / 256), Crc.it_split (k + 2) (N / 256 / 256), Crc.it_split (k + 1) (N / 256 / 256 / 256), Crc.it_split k (N / 256 / 256 / 256 / 256)]
  simp only [Nat.div_div_eq_div_mul]
  rw [show N / (256 * 256 * 256 * 256 * 256) = 0 by omega, Crc.it_zero Crc.ah8_zero, Nat.xor_zero]
  simp only [show k + 5 - 0 = k + 4 + 1 by omega, show k + 5 - 1 = k + 3 + 1 by omega, show k + 5 - 2 = k + 2 + 1 by omega, show k + 5 - 3 = k + 1 + 1 by omega, show k + 5 - 4 = k + 1 by omega,
    show 256 ^ 2 = 256 * 256 by decide, show 256 ^ 3 = 256 * 256 * 256 by decide, show 256 ^ 4 = 256 * 256 * 256 * 256 by decide, Nat.xor_assoc]
theorem Crc.it_ah_double (j s m : Nat) : Crc.it Crc.ah (j + s) (2 ^ s * m) = Crc.it Crc.ah j m := by
  induction s with
  | zero => simp
  | succ s ih =>
    show Crc.it Crc.ah (j + s) (Crc.ah (2 ^ (s + 1) * m)) = _
    rw [show 2 ^ (s + 1) * m = 2 * (2 ^ s * m) by rw [Nat.pow_succ, Nat.mul_comm (2 ^ s) 2, Nat.mul_assoc], Crc.ah_double, ih]
/-- unlike within 32 bits side by side: unlike Sums -/
theorem Crc.near (k b s : Nat) (hb : b < 4294967296) (hs : s < 8) : Crc.part k (b * 2 ^ s) 5 = 0 ↔ b = 0 := by
  have hN : b * 2 ^ s < 1099511627776 := by
    have h1 : 2 ^ s ≤ 128 := by
      match s, hs with
      | 0, _ | 1, _ | 2, _ | 3, _ | 4, _ | 5, _ | 6, _ | 7, _ => decide
    calc b * 2 ^ s ≤ b * 128 := Nat.mul_le_mul_left _ h1
      _ < 1099511627776 := by omega
  rw [Crc.part_all k _ hN]
  have e : Crc.it Crc.ah8 (k + 5) (b * 2 ^ s) = Crc.it Crc.ah (8 * (k + 5) - s) b := by
    have h1 : Crc.it Crc.ah8 (k + 5) (b * 2 ^ s) = Crc.it Crc.ah (8 * (k + 5)) (b * 2 ^ s) := Crc.it_mul Crc.ah 8 (k + 5) (b * 2 ^ s)
    rw [h1]
    have h2 := Crc.it_ah_double (8 * (k + 5) - s) s b
    rw [show 8 * (k + 5) - s + s = 8 * (k + 5) by omega, Nat.mul_comm (2 ^ s) b] at h2
    exact h2
  rw [e]
  constructor
  · intro h
    have h2 := Crc.it_back (fun _ => Crc.ah_lt) (fun _ => Crc.bk_ah) (8 * (k + 5) - s) hb
    rw [h, Crc.it_zero (by decide)] at h2
    exact h2.symm
  · rintro rfl; exact Crc.it_zero Crc.ah_zero _
theorem Crc.near_fits (b s : Nat) (hb : b < 4294967296) (hs : s < 8) : IntKind.u64.wrap ((b : Int) * 2 ^ s) = ((b * 2 ^ s : Nat) : Int) := by
  have h1 : 2 ^ s ≤ 128 := by
    match s, hs with
    | 0, _ | 1, _ | 2, _ | 3, _ | 4, _ | 5, _ | 6, _ | 7, _ => decide
  have h2 : b * 2 ^ s < 1099511627776 := by
    calc b * 2 ^ s ≤ b * 128 := Nat.mul_le_mul_left _ h1
      _ < 1099511627776 := by omega
  rw [show (b : Int) * 2 ^ s = ((b * 2 ^ s : Nat) : Int) by norm_cast, IntKind.wrap_u64]
  omega
theorem Crc.near_byte (v N k : Nat) (hv : v < 256) : bits .xor .u8 (v : Int) ((N : Int) / 2 ^ (8 * k) % 256) = ((v ^^^ (N / 256 ^ k % 256) : Nat) : Int) := by
  have e : (N : Int) / 2 ^ (8 * k) % 256 = ((N / 256 ^ k % 256 : Nat) : Int) := by
    rw [show 256 ^ k = 2 ^ (8 * k) by rw [Nat.pow_mul]]
    rw [Int.natCast_emod, Int.natCast_ediv, Int.natCast_pow]
    rfl
  rw [e, crc_xor8 _ _ hv (Nat.mod_lt _ (by omega))]
theorem Crc.near_sum (cur : List Nat) (L n len0 len2 k v N : Nat) (hn : cur.length = n) (hnn : n = len0 + len2 + 5) (hk : k < 5) (hv : cur[len0 + k]? = some v) (hs : Crc.sum cur = L ^^^ Crc.part len2 N k) :
    Crc.sum (cur.set (len0 + k) (v ^^^ (N / 256 ^ k % 256))) = L ^^^ Crc.part len2 N (k + 1) := by
  rw [← sum_set' cur (len0 + k) v (v ^^^ (N / 256 ^ k % 256)) n (len2 + 4 - k) hn (by omega) hv (by omega), hs, Crc.part_succ, ← Nat.xor_assoc v, Nat.xor_self, Nat.zero_xor, show len2 + 4 - k + 1 = len2 + 5 - k by omega, Nat.xor_assoc]
theorem Crc.near_end (cur : List Nat) (L b s len2 N : Nat) (hb : b < 4294967296) (hs : s < 8) (hN : N = b * 2 ^ s) (h : Crc.sum cur = L ^^^ Crc.part len2 N 5) : ((L : Int) == (Crc.sum cur : Int)) = ((b : Int) == 0) := by
  have hk := Crc.near len2 b s hb hs
  rw [← hN] at hk
  rw [h, Bool.eq_iff_iff, beq_iff_eq, beq_iff_eq]
  constructor
  · intro e
    have e2 : L ^^^ Crc.part len2 N 5 = L := by omega
    have e3 : Crc.part len2 N 5 = 0 := by
      have h3 : L ^^^ (L ^^^ Crc.part len2 N 5) = L ^^^ L := by rw [e2]
      rwa [← Nat.xor_assoc, Nat.xor_self, Nat.zero_xor] at h3
    have := hk.1 e3
    omega
  · intro e
    have := hk.2 (by omega)
    rw [this, Nat.xor_zero]
attribute [local irreducible] Crc.it Crc.ah8 Crc.bk8 Crc.run Crc.sum Crc.step Crc.ah Crc.bk Crc.pick Crc.tab Crc.psum Crc.found noughts strOf bytesRow Crc.part byteVals

set_option maxRecDepth 100000 in
set_option maxHeartbeats 1000000 in
theorem walk_CrcNear (a0 : Option Addr) (len0 cap0 : Nat) (z0 : List Int) (a1 : Option Addr) (len1 cap1 : Nat) (z1 : List Int) (a2 : Option Addr) (len2 cap2 : Nat) (z2 : List Int) (a3 a4 : Int) (w : World)
    (w0 : IsRow .u8 w a0 len0 cap0 z0) (w1 : IsRow .u8 w a1 len1 cap1 z1) (w2 : IsRow .u8 w a2 len2 cap2 z2) (w3 : (Lit.int .u32 a3).wf = true) (w4 : (Lit.int .u8 a4).wf = true) :
    Calls Try.prog 9 #[.slice a0 len0 cap0, .slice a1 len1 cap1, .slice a2 len2 cap2, .int .u32 a3, .int .u8 a4] w fun e w' => e = .returned (.bool true) ∧ Below w.heap.size w w' := by
  obtain ⟨b, rfl, hb⟩ := u32_nat w3
  obtain ⟨f, rfl, hf⟩ := u8_nat w4
  clear w3 w4
  have hc0 := w0.capNil
  have hc1 := w1.capNil
  have hc2 := w2.capNil
  have hcl1 := w1.cap
  obtain ⟨l0, hl0, hlm0, hby0⟩ := w0.bytes
  obtain ⟨l1, hl1, hlm1, hby1⟩ := w1.bytes
  obtain ⟨l2, hl2, hlm2, hby2⟩ := w2.bytes
  clear w0 w1 w2
  have hm0 : (len0 : Int) ≤ 9223372036854775807 := by unfold maxLen at hlm0; omega
  have hm1 : (len1 : Int) ≤ 9223372036854775807 := by unfold maxLen at hlm1; omega
  have hm2 : (len2 : Int) ≤ 9223372036854775807 := by unfold maxLen at hlm2; omega
  by_cases h1 : 1500 < len0
  · go_enter Try.func9, Try.ntmps9
    go_wp2_with (go_at_call 11; refine (works_any _).mono ?_; rintro e w' ⟨rfl, hb⟩)
    go_ret
    exact ⟨rfl, by assumption⟩
  by_cases h2 : 1500 < len2
  · go_enter Try.func9, Try.ntmps9
    go_wp2_with (go_at_call 11; refine (works_any _).mono ?_; rintro e w' ⟨rfl, hb⟩)
    go_ret
    exact ⟨rfl, by assumption⟩
  by_cases h3 : len1 < 5
  · go_enter Try.func9, Try.ntmps9
    go_wp2_with (go_at_call 11; refine (works_any _).mono ?_; rintro e w' ⟨rfl, hb⟩)
    go_ret
    exact ⟨rfl, by assumption⟩
  obtain ⟨s, hs, hs8⟩ : ∃ s : Nat, ((f : Int) % 8) = s ∧ s < 8 := ⟨f % 8, by omega, by omega⟩
  obtain ⟨i0, hi, hz0, hz1, hz2⟩ := info_parts info_u8
  have H0 := Lib.hid hl0
  have H1 := Lib.hid hl1
  have H2 := Lib.hid hl2
  clear hl0 hl1 hl2
  have hsl : (5 : Int) ≤ cap1 := by omega
  have S0 := SrcAt.bytes (c := cap0) hby0 hc0
  have hN := Crc.near_fits b s hb hs8
  obtain ⟨N, hN1, hN2⟩ : ∃ N : Nat, IntKind.u64.wrap ((b : Int) * 2 ^ s) = (N : Int) ∧ N = b * 2 ^ s := ⟨b * 2 ^ s, hN, rfl⟩
  have HN := Lib.hid hN2
  clear hN hN2
  have HL1 : Hid ((l1.take 5).length = 5) := Lib.hid (by rw [List.length_take, H1.out]; omega)
  go_enter Try.func9, Try.ntmps9
  go_wp2_with fail
  go_region_law (first
    | (refine step_append_src rfl (.tmp 34) (.tmp 35) 22 rfl w.heap.size 5 i0 (.int .u8 0) 1 1 Try.underlying22 hi hz0 hz1 hz2 rfl (by decide) (.slice none 0 0) 0 [] rfl (World.ownsRow_nil _ _ _ _) a0 len0 cap0 (byteVals l0) rfl (by rw [byteVals_length, Nat.mul_one]; exact H0.out) S0 (by unfold maxLen; omega) (by omega) (Nat.le_refl _) ?_; intro v1 W1 hown1 hg1; have hB1 : Below w.heap.size w W1 := ((Below.refl _ w).drew).grown hg1 (Nat.le_refl _) (by intro k hk; cases hk))
    | (refine step_append_src rfl (.tmp 36) (.tmp 38) 22 rfl w.heap.size 5 i0 (.int .u8 0) 1 1 Try.underlying22 hi hz0 hz1 hz2 rfl (by decide) v1 (0 + len0) ([] ++ byteVals l0) rfl hown1 a1 5 cap1 (byteVals (l1.take 5)) rfl (by rw [byteVals_length, Nat.mul_one]; exact HL1.out) (SrcAt.bytes ((hby1.below hB1).take 5) hc1) (by unfold maxLen; omega) (by omega) hB1.size ?_; intro v2 W2 hown2 hg2; have hB2 : Below w.heap.size w W2 := hB1.grown hg2 hB1.size (fun k hk => (hown1.lt k hk).1))
    | (refine step_append_src rfl (.tmp 39) (.tmp 40) 22 rfl w.heap.size 5 i0 (.int .u8 0) 1 1 Try.underlying22 hi hz0 hz1 hz2 rfl (by decide) v2 (0 + len0 + 5) ([] ++ byteVals l0 ++ byteVals (l1.take 5)) rfl hown2 a2 len2 cap2 (byteVals l2) rfl (by rw [byteVals_length, Nat.mul_one]; exact H2.out) (SrcAt.bytes (hby2.below hB2) hc2) (by unfold maxLen; omega) (by omega) hB2.size ?_; intro v3 W3 hown3 hg3; have hB3 : Below w.heap.size w W3 := hB2.grown hg3 hB2.size (fun k hk => (hown2.lt k hk).1)))
  have hown3 : W3.ownsRow w.heap.size 5 1 v3 (0 + len0 + 5 + len2) (byteVals (l0 ++ l1.take 5 ++ l2)) := by
    rw [byteVals_append, byteVals_append]; simpa using hown3
  obtain ⟨L, hL, hLl, hLb⟩ : ∃ L, L = l0 ++ l1.take 5 ++ l2 ∧ L.length = 0 + len0 + 5 + len2 ∧ ∀ c ∈ L, c < 256 := by
    refine ⟨_, rfl, ?_, ?_⟩
    · rw [List.length_append, List.length_append, H0.out, HL1.out, H2.out]; omega
    · intro c hc
      rcases List.mem_append.1 hc with hc | hc
      · rcases List.mem_append.1 hc with hc | hc
        · exact hby0.1 c hc
        · exact (hby1.take 5).1 c hc
      · exact hby2.1 c hc
  rw [← hL] at hown3
  obtain ⟨n, hn⟩ : ∃ n, n = 0 + len0 + 5 + len2 := ⟨_, rfl⟩
  rw [← hn] at hown3 hLl
  have hn5 : n = len0 + len2 + 5 := by omega
  have HNN := Lib.hid hn5
  have HLl := Lib.hid hLl
  have hnb : n ≤ 3005 := by omega
  clear hn hn5 hL hLl hown1 hown2 hg1 hg2 hg3 hB1 hB2
  obtain ⟨g, xcap, rfl, hgb, hMx⟩ := own_mine hLb HLl.out (by have := HNN.out; omega) hown3
  have SX := SrcAt.bytes (c := xcap) hMx.bytes (fun h => by cases h)
  have hxg := hMx.lt (by rw [HLl.out]; have := HNN.out; omega)
  clear hown3
  go_wp2_with (at_builtin; refine wpList_append_src rfl (.tmp 42) (.tmp 43) 22 rfl W3.heap.size 5 i0 (.int .u8 0) 1 1 Try.underlying22 hi hz0 hz1 hz2 rfl (by decide) (.slice none 0 0) 0 [] rfl (World.ownsRow_nil _ _ _ _) (some ⟨g, 0, none⟩) n xcap (byteVals L) rfl (by rw [byteVals_length, Nat.mul_one]; exact HLl.out) SX (by unfold maxLen; omega) (by omega) (Nat.le_refl _) ?_; intro v4 W4 hown4 hg4)
  have hB4 : Below W3.heap.size W3 W4 := (Below.refl _ W3).grown hg4 (Nat.le_refl _) (by intro k hk; cases hk)
  rw [Nat.zero_add, List.nil_append] at hown4
  obtain ⟨g2, ycap, rfl, hgb2, hMy⟩ := own_mine hLb HLl.out (by have := HNN.out; omega) hown4
  have hMx4 := hMx.below hB4
  have hB5 := below_next hB3 hB3.size hB4
  have hne : g2 ≠ g := by omega
  have hg2w : w.heap.size ≤ g2 := Nat.le_trans hB3.size hgb2
  clear hown4 hg4 SX hMx hB4
  go_wp2_with fail
  go_loopw [14] (fun i wr => ∃ (k : Nat) (cur : List Nat), k ≤ 5 ∧ i = .int .i64 k ∧ cur.length = n ∧ Mine wr g2 cur ∧ Mine wr g L ∧ Below w.heap.size w wr ∧ Crc.sum cur = Crc.sum L ^^^ Crc.part len2 N k) (fun i _ => 5 - (intOf i).toNat)
  case atStart => exact ⟨0, L, by omega, rfl, HLl.out, hMy, hMx4, hB5, by rw [Crc.part_zero, Nat.xor_zero]⟩
  case round =>
    obtain ⟨k, cur, hk, rfl, hcur, hMc, hML, hBr, hsum⟩ := hrel
    have HC := Lib.hid hcur
    have HS := Lib.hid hsum
    clear hcur hsum hMy hMx4 hB5
    by_cases hlt : k < 5
    · have hpn : len0 + k < n := by have := HNN.out; omega
      have hcp := hMc.2.1 (len0 + k) (by rw [HC.out]; exact hpn)
      have hfp := hMc.2.2 (len0 + k) (by rw [HC.out]; exact hpn)
      obtain ⟨v, hv, hvl⟩ : ∃ v, cur[len0 + k]? = some v ∧ v < 256 := ⟨_, List.getElem?_eq_getElem (by rw [HC.out]; exact hpn), hMc.1 _ (List.getElem_mem _)⟩
      rw [List.getD_eq_getElem?_getD, hv] at hcp
      simp only [Option.getD_some] at hcp
      have HV := Lib.hid hv
      clear hv
      have e1 : IntKind.i64.wrap ((len0 : Int) + (k : Int)) = (len0 : Int) + (k : Int) := IntWalk.i64_in _ (by omega)
      have e2 : IntKind.i64.wrap (8 * (k : Int)) = 8 * (k : Int) := IntWalk.i64_in _ (by omega)
      have b1 : (0 : Int) ≤ (len0 : Int) + (k : Int) := by omega
      have b2 : (len0 : Int) + (k : Int) < n := by omega
      have e3 : ((len0 : Int) + (k : Int)).toNat = len0 + k := by omega
      go_wp2_with fail
      go_region
      rw [Crc.near_byte v N k hvl]
      have ht : N / 256 ^ k % 256 < 256 := Nat.mod_lt _ (by omega)
      have HS2 := Lib.hid (Crc.near_sum cur _ n len0 len2 k v N HC.out HNN.out hlt HV.out HS.out)
      have hM2 := (hMc.store (k := len0 + k) (v := v ^^^ (N / 256 ^ k % 256)) (by rw [HC.out]; exact hpn) (xor_lt8 hvl ht)).drew
      have hL2 := (hML.other hne (len0 + k) (Value.int IntKind.u8 (v ^^^ (N / 256 ^ k % 256) : Nat))).drew
      have hBr2 := (hBr.setCell (p := ⟨g2, len0 + k, none⟩) hg2w (Value.int IntKind.u8 (v ^^^ (N / 256 ^ k % 256) : Nat))).drew
      have HC2 : Hid ((cur.set (len0 + k) (v ^^^ (N / 256 ^ k % 256))).length = n) := Lib.hid (by rw [List.length_set, HC.out])
      generalize cur.set (len0 + k) (v ^^^ (N / 256 ^ k % 256)) = cur2 at *
      generalize (wr.setCell ⟨g2, len0 + k, none⟩ (Value.int IntKind.u8 (v ^^^ (N / 256 ^ k % 256) : Nat))).drew = wr2 at *
      clear hMc hML hBr hcp hfp e1 e2 e3
      go_wp2_with fail
      go_roundw
      case rel => exact ⟨k + 1, cur2, by omega, by go_num, HC2.out, hM2, hL2, hBr2, HS2.out⟩
      case measure => simp [intOf]; omega
    · obtain rfl : k = 5 := by omega
      have HE := Lib.hid (Crc.near_end cur _ b s len2 N hb hs8 HN.out HS.out)
      go_wp2_with fail
      refine (sum_is L _ rfl HLl.out (by unfold maxLen; omega) hML.bytes).mono ?_
      rintro e W5 ⟨rfl, hb5⟩
      go_wp2_with fail
      refine (sum_is cur _ rfl HC.out (by unfold maxLen; omega) (hMc.bytes.below hb5)).mono ?_
      rintro e W6 ⟨rfl, hb6⟩
      have hB6 := below_next hBr hBr.size (below_on hb5 hb6)
      have hE := HE.out
      go_wp2_with fail
      refine (works_any _).mono ?_
      rintro e W7 ⟨rfl, hb7⟩
      go_wp2_with fail
      go_ret
      exact ⟨rfl, below_next hB6 hB6.size hb7⟩
end Go.Proofs.Ytegkogbkoealaaa
