/-
  Walks of the statements CrcBytes, CrcOrders, CrcFind of chapter 1.
-/
import Derived.Test.YtegkogbkoealaaaCrcLawsA
namespace Go.Proofs.Ytegkogbkoealaaa
open Go.RowKit

/-- changes may be made in any order -/
theorem orders_1 (s a b c d k l : Nat) : (s ^^^ Crc.it Crc.ah8 k (a ^^^ b)) ^^^ Crc.it Crc.ah8 l (c ^^^ d) = (s ^^^ Crc.it Crc.ah8 l (c ^^^ d)) ^^^ Crc.it Crc.ah8 k (a ^^^ b) := by ac_rfl
theorem orders_2 (s a b c k : Nat) : (s ^^^ Crc.it Crc.ah8 k (a ^^^ b)) ^^^ Crc.it Crc.ah8 k (b ^^^ c) = s ^^^ Crc.it Crc.ah8 k (a ^^^ c) := by
  rw [Nat.xor_assoc, ← Crc.it_ah8_xor, Nat.xor_assoc, ← Nat.xor_assoc b, Nat.xor_self, Nat.zero_xor]
theorem orders_3 (s a b k : Nat) : (s ^^^ Crc.it Crc.ah8 k (a ^^^ b)) ^^^ Crc.it Crc.ah8 k (b ^^^ a) = s := by
  rw [orders_2, Nat.xor_self, Crc.it_zero Crc.ah8_zero, Nat.xor_zero]
theorem orders_4 (s a b k : Nat) (ha : a < 256) (hb : b < 256) : (((s ^^^ Crc.it Crc.ah8 k (a ^^^ b) : Nat) : Int) == (s : Int)) = ((a : Int) == (b : Int)) := by
  have key : s ^^^ Crc.it Crc.ah8 k (a ^^^ b) = s ↔ a = b := by
    constructor
    · intro h
      have h2 : Crc.it Crc.ah8 k (a ^^^ b) = 0 := by
        have := congrArg (s ^^^ ·) h
        simpa [← Nat.xor_assoc] using this
      have h3 : a ^^^ b = 0 := Crc.it_ah8_inj (k := k) (Nat.lt_of_lt_of_le (xor_lt8 ha hb) (by omega)) (by omega) (by rw [h2, Crc.it_zero Crc.ah8_zero])
      have := congrArg (· ^^^ b) h3
      simpa [Nat.xor_assoc] using this
    · rintro rfl
      rw [Nat.xor_self, Crc.it_zero Crc.ah8_zero, Nat.xor_zero]
  rw [Bool.eq_iff_iff]; simp only [beq_iff_eq]
  constructor
  · intro h; have := key.1 (by omega); omega
  · intro h; have := key.2 (by omega); omega

attribute [local irreducible] Crc.it Crc.ah8 Crc.bk8 Crc.run Crc.sum Crc.step Crc.ah Crc.bk Crc.pick Crc.tab Crc.psum Crc.found noughts

theorem change_ex (s a b : Nat) (x : Int) (m : Nat) (w : World) (hx : x = m) (hs : s < 4294967296) (ha : a < 256) (hb : b < 256) (hm : m ≤ 65536) :
    Calls Try.prog 14 #[.int .u32 s, .int .u8 a, .int .u8 b, .int .i64 x] w fun e w' => (∃ v : Nat, v < 4294967296 ∧ Hid (v = s ^^^ Crc.it Crc.ah8 (m + 1) (a ^^^ b)) ∧ e = .returned (.tuple #[.int .u32 v, .bool true])) ∧ w = w' := by
  subst hx
  refine (change_any s a b m w hs ha hb hm).mono fun e w' ⟨h1, h2⟩ => ⟨⟨_, ?_, Lib.hid rfl, h1⟩, h2⟩
  have := xor_lt8 ha hb
  exact Crc.xor_lt32 hs (Crc.it_ah8_lt (by omega))

theorem refchange_ex (s a b : Nat) (x : Int) (m : Nat) (w : World) (hx : x = m) (hs : s < 4294967296) (ha : a < 256) (hb : b < 256) (hm : m ≤ 65536) :
    Calls Try.prog 15 #[.int .u32 s, .int .u8 a, .int .u8 b, .int .i64 x] w fun e w' => (∃ v : Nat, v < 4294967296 ∧ Hid (v = s ^^^ Crc.it Crc.ah8 (m + 1) (a ^^^ b)) ∧ e = .returned (.tuple #[.int .u32 v, .bool true])) ∧ Below w.heap.size w w' := by
  subst hx
  refine (refchange_any s a b m w hs ha hb hm).mono fun e w' ⟨h1, h2⟩ => ⟨⟨_, ?_, Lib.hid rfl, h1⟩, h2⟩
  have := xor_lt8 ha hb
  exact Crc.xor_lt32 hs (Crc.it_ah8_lt (by omega))

set_option maxHeartbeats 1000000 in
theorem walk_CrcOrders (a0 a1 a2 a3 a4 a5 a6 : Int) (w : World) (w0 : (Lit.int .u32 a0).wf = true) (w1 : (Lit.int .u8 a1).wf = true) (w2 : (Lit.int .u8 a2).wf = true) (w3 : (Lit.int .u8 a3).wf = true) (w4 : (Lit.int .u8 a4).wf = true) (w5 : (Lit.int .u16 a5).wf = true) (w6 : (Lit.int .u16 a6).wf = true) :
    Calls Try.prog 8 #[.int .u32 a0, .int .u8 a1, .int .u8 a2, .int .u8 a3, .int .u8 a4, .int .u16 a5, .int .u16 a6] w fun e w' => e = .returned (.bool true) ∧ Below w.heap.size w w' := by
  obtain ⟨s, rfl, hs⟩ := u32_nat w0
  obtain ⟨a, rfl, ha⟩ := u8_nat w1
  obtain ⟨b, rfl, hb⟩ := u8_nat w2
  obtain ⟨c, rfl, hc⟩ := u8_nat w3
  obtain ⟨d, rfl, hd⟩ := u8_nat w4
  obtain ⟨m, rfl, hm⟩ := u16_nat w5
  obtain ⟨n, rfl, hn⟩ := u16_nat w6
  clear w0 w1 w2 w3 w4 w5 w6
  go_enter Try.func8, Try.ntmps8
  obtain ⟨k, hk, hk2⟩ : ∃ k : Nat, ((m : Int) % 1500) = k ∧ k ≤ 1500 := ⟨m % 1500, by omega, by omega⟩
  obtain ⟨l, hl, hl2⟩ : ∃ l : Nat, ((n : Int) % 1500) = l ∧ l ≤ 1500 := ⟨n % 1500, by omega, by omega⟩
  go_wp2_with fail
  with_reducible refine (change_ex s a b _ k _ rfl hs ha hb (by omega)).mono ?_
  rintro e w' ⟨⟨x, hx, Hx, rfl⟩, rfl⟩
  go_wp2_with fail
  with_reducible refine (change_ex x c d _ l _ rfl hx hc hd (by omega)).mono ?_
  rintro e w' ⟨⟨xy, hxy, Hxy, rfl⟩, rfl⟩
  go_wp2_with fail
  with_reducible refine (change_ex s c d _ l _ rfl hs hc hd (by omega)).mono ?_
  rintro e w' ⟨⟨y, hy, Hy, rfl⟩, rfl⟩
  go_wp2_with fail
  with_reducible refine (change_ex y a b _ k _ rfl hy ha hb (by omega)).mono ?_
  rintro e w' ⟨⟨yx, hyx, Hyx, rfl⟩, rfl⟩
  go_wp2_with fail
  with_reducible refine (change_ex x b c _ k _ rfl hx hb hc (by omega)).mono ?_
  rintro e w' ⟨⟨more, hmore, Hmore, rfl⟩, rfl⟩
  go_wp2_with fail
  with_reducible refine (change_ex s a c _ k _ rfl hs ha hc (by omega)).mono ?_
  rintro e w' ⟨⟨one, hone, Hone, rfl⟩, rfl⟩
  go_wp2_with fail
  with_reducible refine (change_ex x b a _ k _ rfl hx hb ha (by omega)).mono ?_
  rintro e w' ⟨⟨back, hback, Hback, rfl⟩, rfl⟩
  have e1 : xy = yx := by rw [Hxy.out, Hx.out, Hyx.out, Hy.out, orders_1]
  have e2 : more = one := by rw [Hmore.out, Hx.out, Hone.out, orders_2]
  have e3 : back = s := by rw [Hback.out, Hx.out, orders_3]
  have e4 : ((x : Int) == (s : Int)) = ((a : Int) == (b : Int)) := by rw [Hx.out]; exact orders_4 s a b _ ha hb
  clear Hxy Hx Hyx Hy Hmore Hone Hback hxy hmore hback
  subst e1
  subst e2
  subst e3
  go_wp2_with fail
  refine (works_any _).mono ?_
  rintro e w' ⟨rfl, hbw⟩
  go_wp2_with fail
  go_ret
  exact ⟨rfl, hbw⟩
end Go.Proofs.Ytegkogbkoealaaa
