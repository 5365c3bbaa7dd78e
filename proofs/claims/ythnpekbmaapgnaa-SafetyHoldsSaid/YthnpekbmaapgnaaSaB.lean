/-
 Layer 29, walks: slices.IndexFunc and slices.ContainsFunc with the closures of safety.Cycle.
-/
import Derived.Test.YthnpekbmaapgnaaMC
namespace Go.Proofs.Ythnpekbmaapgnaa
open Go.RowKit
set_option maxRecDepth 100000
attribute [local irreducible] ixF Sl.v
theorem sa_next {k g n : Nat} (h : k + g = n) (hlt : k < n) : k + 1 + (n - (k + 1)) = n := by omega
theorem sa_less {k g n : Nat} (h : k + g = n) (hlt : k < n) : n - (k + 1) < g := by omega
theorem sa_wsucc {k n : Nat} (h : k < n) (hn : n ≤ 9223372036854775807) : wrap64 ((k : Int) + 1) = (k : Int) + 1 := by unfold wrap64; omega
set_option maxHeartbeats 2000000 in
theorem ixf_a1 (g1 g2 : Nat) (p : Int → Bool) (x : Option Addr) (m c : Nat) (l : List Int) (w : World) (hn : l.length = m) (hm : m ≤ 9223372036854775807) (hl : RowAt 1 intC w x l)
 (hp : ∀ W, Below w.heap.size w W → ∀ y ∈ l, Calls Try.prog 24 #[.int .i64 y, .pointer (some ⟨g1, 0, none⟩), .pointer (some ⟨g2, 0, none⟩)] W fun e w' => e = .returned (.bool (p y)) ∧ Below W.heap.size W w') :
 Calls Try.prog 56 #[.slice x m c, .func (.func 24) #[] #[.pointer (some ⟨g1, 0, none⟩), .pointer (some ⟨g2, 0, none⟩)]] w fun e w' => e = .returned (.int .i64 (ixF p 0 l)) ∧ Below w.heap.size w w' := by
 have HN := Lib.hid hn
 have HP := Lib.hid hp
 have HR := Lib.hid hl
 have HM := Lib.hid hm
 clear hn hp hl hm
 go_enter Try.func56, Try.ntmps56
 go_wp2_with fail
 go_loopg [5, 8] m (fun g _ i wr => ∃ k : Nat, k + g = m ∧ i = .int .i64 (k : Int) ∧ ixF p k (l.drop k) = ixF p 0 l ∧ Below w.heap.size w wr)
 case atStart => exact ⟨0, by omega, rfl, rfl, Below.refl _ _⟩
 case round =>
  obtain ⟨k, hk, rfl, hb, hbw⟩ := hrel
  have HB := Lib.hid hb
  have HBW := Lib.hid hbw
  have HK := Lib.hid hk
  clear hb hbw hk
  by_cases hlt : k < m
  ·obtain ⟨y, hy⟩ : ∃ y, l[k]? = some y := ⟨_, List.getElem?_eq_getElem (by rw [HN.out]; exact hlt)⟩
   rcases HR.out.below HBW.out with hnil | ⟨b, off, rfl, hc⟩
   ·rw [hnil] at hy; simp at hy
   have z0 := hc k _ hy 0 _ rfl
   rw [Nat.add_zero, Nat.mul_one] at z0
   have hd := ixF_drop (p := p) hy
   have d1 : (0 : Int) ≤ k := by omega
   have d2 : (k : Int) < m := by omega
   have e1 := sa_wsucc hlt HM.out
   have HLT := Lib.hid hlt
   have hcall := HP.out wr HBW.out y (List.mem_of_getElem? hy)
   obtain ⟨D, hD⟩ : ∃ D, p y = D := ⟨_, rfl⟩
   rw [hD] at hcall hd
   have HC := Lib.hid hcall
   clear hc hy hcall hD hlt
   cases D with
   | true =>
     have HF : Hid (ixF p 0 l = k) := Lib.hid (HB.out.symm.trans (by rw [hd, if_pos rfl]))
     clear hd
     go_wp2_with fail
     refine HC.out.mono ?_
     rintro e w5 ⟨rfl, hb5⟩
     have HB5 := Lib.hid (below_on HBW.out hb5)
     clear hb5
     go_wp2_with fail
     go_ret
     exact ⟨by rw [HF.out]; rfl, HB5.out⟩
   | false =>
     have HT : Hid (ixF p (k + 1) (l.drop (k + 1)) = ixF p 0 l) := Lib.hid (Eq.trans (by rw [hd, if_neg (by decide)]) HB.out)
     clear hd
     go_wp2_with fail
     refine HC.out.mono ?_
     rintro e w5 ⟨rfl, hb5⟩
     have HB5 := Lib.hid (below_on HBW.out hb5)
     clear hb5
     go_wp2_with fail
     go_roundg (m - (k + 1))
     case rel => exact ⟨k + 1, sa_next HK.out HLT.out, by go_num, HT.out, HB5.out⟩
     case measure => exact sa_less HK.out HLT.out
  ·have hkm : m = k := by have := HK.out; omega
   subst hkm
   have HF : Hid (ixF p 0 l = -1) := Lib.hid (HB.out.symm.trans (ixF_end HN.out))
   go_wp2_with fail
   go_ret
   exact ⟨by rw [HF.out]; rfl, HBW.out⟩
theorem conf_a1 (b : Bool) (g1 g2 : Nat) (p : Int → Bool) (x : Option Addr) (m c : Nat) (l : List Int) (w : World) (hb : l.any p = b) (hn : l.length = m) (hm : m ≤ 9223372036854775807) (hl : RowAt 1 intC w x l)
 (hp : ∀ W, Below w.heap.size w W → ∀ y ∈ l, Calls Try.prog 24 #[.int .i64 y, .pointer (some ⟨g1, 0, none⟩), .pointer (some ⟨g2, 0, none⟩)] W fun e w' => e = .returned (.bool (p y)) ∧ Below W.heap.size W w') :
 Calls Try.prog 23 #[.slice x m c, .func (.func 24) #[] #[.pointer (some ⟨g1, 0, none⟩), .pointer (some ⟨g2, 0, none⟩)]] w fun e w' => e = .returned (.bool b) ∧ Below w.heap.size w w' := by
 have hc := ixf_a1 g1 g2 p x m c l w hn hm hl hp
 have hi := ixF_iff p l 0
 obtain ⟨z, hz⟩ : ∃ z, ixF p 0 l = z := ⟨_, rfl⟩
 rw [hz, hb] at hi
 rw [hz] at hc
 have HC := Lib.hid hc
 clear hz hb hn hm hl hp hc
 rcases hi with ⟨h1, rfl⟩ | ⟨h1, rfl⟩
 ·go_enter Try.func23, Try.ntmps23
  go_wp2_with fail
  refine HC.out.mono ?_
  rintro e w1 ⟨rfl, hb1⟩
  have HB := Lib.hid hb1
  clear hb1
  go_wp2_with fail
  go_ret
  exact ⟨rfl, HB.out⟩
 ·have h2 : ¬ 0 ≤ z := by omega
  go_enter Try.func23, Try.ntmps23
  go_wp2_with fail
  refine HC.out.mono ?_
  rintro e w1 ⟨rfl, hb1⟩
  have HB := Lib.hid hb1
  clear hb1
  go_wp2_with fail
  go_ret
  exact ⟨by show Ending.returned (.bool (decide (0 ≤ z))) = _; rw [decide_eq_false (by omega)], HB.out⟩
set_option maxHeartbeats 2000000 in
theorem ixf_a2 (g1 g2 : Nat) (p : Int → Bool) (x : Option Addr) (m c : Nat) (l : List Int) (w : World) (hn : l.length = m) (hm : m ≤ 9223372036854775807) (hl : RowAt 1 intC w x l)
 (hp : ∀ W, Below w.heap.size w W → ∀ y ∈ l, Calls Try.prog 25 #[.int .i64 y, .pointer (some ⟨g1, 0, none⟩), .pointer (some ⟨g2, 0, none⟩)] W fun e w' => e = .returned (.bool (p y)) ∧ Below W.heap.size W w') :
 Calls Try.prog 56 #[.slice x m c, .func (.func 25) #[] #[.pointer (some ⟨g1, 0, none⟩), .pointer (some ⟨g2, 0, none⟩)]] w fun e w' => e = .returned (.int .i64 (ixF p 0 l)) ∧ Below w.heap.size w w' := by
 have HN := Lib.hid hn
 have HP := Lib.hid hp
 have HR := Lib.hid hl
 have HM := Lib.hid hm
 clear hn hp hl hm
 go_enter Try.func56, Try.ntmps56
 go_wp2_with fail
 go_loopg [5, 8] m (fun g _ i wr => ∃ k : Nat, k + g = m ∧ i = .int .i64 (k : Int) ∧ ixF p k (l.drop k) = ixF p 0 l ∧ Below w.heap.size w wr)
 case atStart => exact ⟨0, by omega, rfl, rfl, Below.refl _ _⟩
 case round =>
  obtain ⟨k, hk, rfl, hb, hbw⟩ := hrel
  have HB := Lib.hid hb
  have HBW := Lib.hid hbw
  have HK := Lib.hid hk
  clear hb hbw hk
  by_cases hlt : k < m
  ·obtain ⟨y, hy⟩ : ∃ y, l[k]? = some y := ⟨_, List.getElem?_eq_getElem (by rw [HN.out]; exact hlt)⟩
   rcases HR.out.below HBW.out with hnil | ⟨b, off, rfl, hc⟩
   ·rw [hnil] at hy; simp at hy
   have z0 := hc k _ hy 0 _ rfl
   rw [Nat.add_zero, Nat.mul_one] at z0
   have hd := ixF_drop (p := p) hy
   have d1 : (0 : Int) ≤ k := by omega
   have d2 : (k : Int) < m := by omega
   have e1 := sa_wsucc hlt HM.out
   have HLT := Lib.hid hlt
   have hcall := HP.out wr HBW.out y (List.mem_of_getElem? hy)
   obtain ⟨D, hD⟩ : ∃ D, p y = D := ⟨_, rfl⟩
   rw [hD] at hcall hd
   have HC := Lib.hid hcall
   clear hc hy hcall hD hlt
   cases D with
   | true =>
     have HF : Hid (ixF p 0 l = k) := Lib.hid (HB.out.symm.trans (by rw [hd, if_pos rfl]))
     clear hd
     go_wp2_with fail
     refine HC.out.mono ?_
     rintro e w5 ⟨rfl, hb5⟩
     have HB5 := Lib.hid (below_on HBW.out hb5)
     clear hb5
     go_wp2_with fail
     go_ret
     exact ⟨by rw [HF.out]; rfl, HB5.out⟩
   | false =>
     have HT : Hid (ixF p (k + 1) (l.drop (k + 1)) = ixF p 0 l) := Lib.hid (Eq.trans (by rw [hd, if_neg (by decide)]) HB.out)
     clear hd
     go_wp2_with fail
     refine HC.out.mono ?_
     rintro e w5 ⟨rfl, hb5⟩
     have HB5 := Lib.hid (below_on HBW.out hb5)
     clear hb5
     go_wp2_with fail
     go_roundg (m - (k + 1))
     case rel => exact ⟨k + 1, sa_next HK.out HLT.out, by go_num, HT.out, HB5.out⟩
     case measure => exact sa_less HK.out HLT.out
  ·have hkm : m = k := by have := HK.out; omega
   subst hkm
   have HF : Hid (ixF p 0 l = -1) := Lib.hid (HB.out.symm.trans (ixF_end HN.out))
   go_wp2_with fail
   go_ret
   exact ⟨by rw [HF.out]; rfl, HBW.out⟩
theorem conf_a2 (b : Bool) (g1 g2 : Nat) (p : Int → Bool) (x : Option Addr) (m c : Nat) (l : List Int) (w : World) (hb : l.any p = b) (hn : l.length = m) (hm : m ≤ 9223372036854775807) (hl : RowAt 1 intC w x l)
 (hp : ∀ W, Below w.heap.size w W → ∀ y ∈ l, Calls Try.prog 25 #[.int .i64 y, .pointer (some ⟨g1, 0, none⟩), .pointer (some ⟨g2, 0, none⟩)] W fun e w' => e = .returned (.bool (p y)) ∧ Below W.heap.size W w') :
 Calls Try.prog 23 #[.slice x m c, .func (.func 25) #[] #[.pointer (some ⟨g1, 0, none⟩), .pointer (some ⟨g2, 0, none⟩)]] w fun e w' => e = .returned (.bool b) ∧ Below w.heap.size w w' := by
 have hc := ixf_a2 g1 g2 p x m c l w hn hm hl hp
 have hi := ixF_iff p l 0
 obtain ⟨z, hz⟩ : ∃ z, ixF p 0 l = z := ⟨_, rfl⟩
 rw [hz, hb] at hi
 rw [hz] at hc
 have HC := Lib.hid hc
 clear hz hb hn hm hl hp hc
 rcases hi with ⟨h1, rfl⟩ | ⟨h1, rfl⟩
 ·go_enter Try.func23, Try.ntmps23
  go_wp2_with fail
  refine HC.out.mono ?_
  rintro e w1 ⟨rfl, hb1⟩
  have HB := Lib.hid hb1
  clear hb1
  go_wp2_with fail
  go_ret
  exact ⟨rfl, HB.out⟩
 ·have h2 : ¬ 0 ≤ z := by omega
  go_enter Try.func23, Try.ntmps23
  go_wp2_with fail
  refine HC.out.mono ?_
  rintro e w1 ⟨rfl, hb1⟩
  have HB := Lib.hid hb1
  clear hb1
  go_wp2_with fail
  go_ret
  exact ⟨by show Ending.returned (.bool (decide (0 ≤ z))) = _; rw [decide_eq_false (by omega)], HB.out⟩
set_option maxHeartbeats 2000000 in
theorem ixf_b1 (g1 : Nat) (p : Int → Bool) (x : Option Addr) (m c : Nat) (l : List Int) (w : World) (hn : l.length = m) (hm : m ≤ 9223372036854775807) (hl : RowAt 1 intC w x l)
 (hp : ∀ W, Below w.heap.size w W → ∀ y ∈ l, Calls Try.prog 31 #[.int .i64 y, .pointer (some ⟨g1, 0, none⟩)] W fun e w' => e = .returned (.bool (p y)) ∧ Below W.heap.size W w') :
 Calls Try.prog 56 #[.slice x m c, .func (.func 31) #[] #[.pointer (some ⟨g1, 0, none⟩)]] w fun e w' => e = .returned (.int .i64 (ixF p 0 l)) ∧ Below w.heap.size w w' := by
 have HN := Lib.hid hn
 have HP := Lib.hid hp
 have HR := Lib.hid hl
 have HM := Lib.hid hm
 clear hn hp hl hm
 go_enter Try.func56, Try.ntmps56
 go_wp2_with fail
 go_loopg [5, 8] m (fun g _ i wr => ∃ k : Nat, k + g = m ∧ i = .int .i64 (k : Int) ∧ ixF p k (l.drop k) = ixF p 0 l ∧ Below w.heap.size w wr)
 case atStart => exact ⟨0, by omega, rfl, rfl, Below.refl _ _⟩
 case round =>
  obtain ⟨k, hk, rfl, hb, hbw⟩ := hrel
  have HB := Lib.hid hb
  have HBW := Lib.hid hbw
  have HK := Lib.hid hk
  clear hb hbw hk
  by_cases hlt : k < m
  ·obtain ⟨y, hy⟩ : ∃ y, l[k]? = some y := ⟨_, List.getElem?_eq_getElem (by rw [HN.out]; exact hlt)⟩
   rcases HR.out.below HBW.out with hnil | ⟨b, off, rfl, hc⟩
   ·rw [hnil] at hy; simp at hy
   have z0 := hc k _ hy 0 _ rfl
   rw [Nat.add_zero, Nat.mul_one] at z0
   have hd := ixF_drop (p := p) hy
   have d1 : (0 : Int) ≤ k := by omega
   have d2 : (k : Int) < m := by omega
   have e1 := sa_wsucc hlt HM.out
   have HLT := Lib.hid hlt
   have hcall := HP.out wr HBW.out y (List.mem_of_getElem? hy)
   obtain ⟨D, hD⟩ : ∃ D, p y = D := ⟨_, rfl⟩
   rw [hD] at hcall hd
   have HC := Lib.hid hcall
   clear hc hy hcall hD hlt
   cases D with
   | true =>
     have HF : Hid (ixF p 0 l = k) := Lib.hid (HB.out.symm.trans (by rw [hd, if_pos rfl]))
     clear hd
     go_wp2_with fail
     refine HC.out.mono ?_
     rintro e w5 ⟨rfl, hb5⟩
     have HB5 := Lib.hid (below_on HBW.out hb5)
     clear hb5
     go_wp2_with fail
     go_ret
     exact ⟨by rw [HF.out]; rfl, HB5.out⟩
   | false =>
     have HT : Hid (ixF p (k + 1) (l.drop (k + 1)) = ixF p 0 l) := Lib.hid (Eq.trans (by rw [hd, if_neg (by decide)]) HB.out)
     clear hd
     go_wp2_with fail
     refine HC.out.mono ?_
     rintro e w5 ⟨rfl, hb5⟩
     have HB5 := Lib.hid (below_on HBW.out hb5)
     clear hb5
     go_wp2_with fail
     go_roundg (m - (k + 1))
     case rel => exact ⟨k + 1, sa_next HK.out HLT.out, by go_num, HT.out, HB5.out⟩
     case measure => exact sa_less HK.out HLT.out
  ·have hkm : m = k := by have := HK.out; omega
   subst hkm
   have HF : Hid (ixF p 0 l = -1) := Lib.hid (HB.out.symm.trans (ixF_end HN.out))
   go_wp2_with fail
   go_ret
   exact ⟨by rw [HF.out]; rfl, HBW.out⟩
theorem conf_b1 (b : Bool) (g1 : Nat) (p : Int → Bool) (x : Option Addr) (m c : Nat) (l : List Int) (w : World) (hb : l.any p = b) (hn : l.length = m) (hm : m ≤ 9223372036854775807) (hl : RowAt 1 intC w x l)
 (hp : ∀ W, Below w.heap.size w W → ∀ y ∈ l, Calls Try.prog 31 #[.int .i64 y, .pointer (some ⟨g1, 0, none⟩)] W fun e w' => e = .returned (.bool (p y)) ∧ Below W.heap.size W w') :
 Calls Try.prog 23 #[.slice x m c, .func (.func 31) #[] #[.pointer (some ⟨g1, 0, none⟩)]] w fun e w' => e = .returned (.bool b) ∧ Below w.heap.size w w' := by
 have hc := ixf_b1 g1 p x m c l w hn hm hl hp
 have hi := ixF_iff p l 0
 obtain ⟨z, hz⟩ : ∃ z, ixF p 0 l = z := ⟨_, rfl⟩
 rw [hz, hb] at hi
 rw [hz] at hc
 have HC := Lib.hid hc
 clear hz hb hn hm hl hp hc
 rcases hi with ⟨h1, rfl⟩ | ⟨h1, rfl⟩
 ·go_enter Try.func23, Try.ntmps23
  go_wp2_with fail
  refine HC.out.mono ?_
  rintro e w1 ⟨rfl, hb1⟩
  have HB := Lib.hid hb1
  clear hb1
  go_wp2_with fail
  go_ret
  exact ⟨rfl, HB.out⟩
 ·have h2 : ¬ 0 ≤ z := by omega
  go_enter Try.func23, Try.ntmps23
  go_wp2_with fail
  refine HC.out.mono ?_
  rintro e w1 ⟨rfl, hb1⟩
  have HB := Lib.hid hb1
  clear hb1
  go_wp2_with fail
  go_ret
  exact ⟨by show Ending.returned (.bool (decide (0 ≤ z))) = _; rw [decide_eq_false (by omega)], HB.out⟩
set_option maxHeartbeats 2000000 in
theorem ixf_b (g1 : Nat) (p : Rt → Bool) (x : Option Addr) (m c : Nat) (l : List Rt) (w : World) (hn : l.length = m) (hm : m ≤ 9223372036854775807) (hl : RowAt 6 rtC w x l)
 (hp : ∀ W, Below w.heap.size w W → ∀ y ∈ l, Calls Try.prog 29 #[.agg #[.string y.nm, .int .i64 y.sg, y.pa.v, y.po.v, y.ov.v, y.fl.v], .pointer (some ⟨g1, 0, none⟩)] W fun e w' => e = .returned (.bool (p y)) ∧ Below W.heap.size W w') :
 Calls Try.prog 53 #[.slice x m c, .func (.func 29) #[] #[.pointer (some ⟨g1, 0, none⟩)]] w fun e w' => e = .returned (.int .i64 (ixF p 0 l)) ∧ Below w.heap.size w w' := by
 have HN := Lib.hid hn
 have HP := Lib.hid hp
 have HR := Lib.hid hl
 have HM := Lib.hid hm
 clear hn hp hl hm
 go_enter Try.func53, Try.ntmps53
 go_wp2_with fail
 go_loopg [5, 8] m (fun g _ i wr => ∃ k : Nat, k + g = m ∧ i = .int .i64 (k : Int) ∧ ixF p k (l.drop k) = ixF p 0 l ∧ Below w.heap.size w wr)
 case atStart => exact ⟨0, by omega, rfl, rfl, Below.refl _ _⟩
 case round =>
  obtain ⟨k, hk, rfl, hb, hbw⟩ := hrel
  have HB := Lib.hid hb
  have HBW := Lib.hid hbw
  have HK := Lib.hid hk
  clear hb hbw hk
  by_cases hlt : k < m
  ·obtain ⟨y, hy⟩ : ∃ y, l[k]? = some y := ⟨_, List.getElem?_eq_getElem (by rw [HN.out]; exact hlt)⟩
   rcases HR.out.below HBW.out with hnil | ⟨b, off, rfl, hc⟩
   ·rw [hnil] at hy; simp at hy
   have z0 := hc k _ hy 0 _ rfl
   have z1 := hc k _ hy 1 _ rfl
   have z2 := hc k _ hy 2 _ rfl
   have z3 := hc k _ hy 3 _ rfl
   have z4 := hc k _ hy 4 _ rfl
   have z5 := hc k _ hy 5 _ rfl
   rw [Nat.add_zero] at z0
   have hd := ixF_drop (p := p) hy
   have d1 : (0 : Int) ≤ k := by omega
   have d2 : (k : Int) < m := by omega
   have e1 := sa_wsucc hlt HM.out
   have HLT := Lib.hid hlt
   have hcall := HP.out wr HBW.out y (List.mem_of_getElem? hy)
   obtain ⟨D, hD⟩ : ∃ D, p y = D := ⟨_, rfl⟩
   rw [hD] at hcall hd
   obtain ⟨m1, hm1⟩ : ∃ n, y.pa.l.length = n := ⟨_, rfl⟩
   obtain ⟨m2, hm2⟩ : ∃ n, y.po.l.length = n := ⟨_, rfl⟩
   obtain ⟨m3, hm3⟩ : ∃ n, y.ov.l.length = n := ⟨_, rfl⟩
   obtain ⟨m4, hm4⟩ : ∃ n, y.fl.l.length = n := ⟨_, rfl⟩
   rw [slv hm1, slv hm2, slv hm3, slv hm4] at hcall
   rw [slv hm1] at z2
   rw [slv hm2] at z3
   rw [slv hm3] at z4
   rw [slv hm4] at z5
   clear hm1 hm2 hm3 hm4
   have HC := Lib.hid hcall
   clear hc hy hcall hD hlt
   cases D with
   | true =>
     have HF : Hid (ixF p 0 l = k) := Lib.hid (HB.out.symm.trans (by rw [hd, if_pos rfl]))
     clear hd
     go_wp2_with fail
     refine HC.out.mono ?_
     rintro e w5 ⟨rfl, hb5⟩
     have HB5 := Lib.hid (below_on HBW.out hb5)
     clear hb5
     go_wp2_with fail
     go_ret
     exact ⟨by rw [HF.out]; rfl, HB5.out⟩
   | false =>
     have HT : Hid (ixF p (k + 1) (l.drop (k + 1)) = ixF p 0 l) := Lib.hid (Eq.trans (by rw [hd, if_neg (by decide)]) HB.out)
     clear hd
     go_wp2_with fail
     refine HC.out.mono ?_
     rintro e w5 ⟨rfl, hb5⟩
     have HB5 := Lib.hid (below_on HBW.out hb5)
     clear hb5
     go_wp2_with fail
     go_roundg (m - (k + 1))
     case rel => exact ⟨k + 1, sa_next HK.out HLT.out, by go_num, HT.out, HB5.out⟩
     case measure => exact sa_less HK.out HLT.out
  ·have hkm : m = k := by have := HK.out; omega
   subst hkm
   have HF : Hid (ixF p 0 l = -1) := Lib.hid (HB.out.symm.trans (ixF_end HN.out))
   go_wp2_with fail
   go_ret
   exact ⟨by rw [HF.out]; rfl, HBW.out⟩
theorem conf_b (b : Bool) (g1 : Nat) (p : Rt → Bool) (x : Option Addr) (m c : Nat) (l : List Rt) (w : World) (hb : l.any p = b) (hn : l.length = m) (hm : m ≤ 9223372036854775807) (hl : RowAt 6 rtC w x l)
 (hp : ∀ W, Below w.heap.size w W → ∀ y ∈ l, Calls Try.prog 29 #[.agg #[.string y.nm, .int .i64 y.sg, y.pa.v, y.po.v, y.ov.v, y.fl.v], .pointer (some ⟨g1, 0, none⟩)] W fun e w' => e = .returned (.bool (p y)) ∧ Below W.heap.size W w') :
 Calls Try.prog 28 #[.slice x m c, .func (.func 29) #[] #[.pointer (some ⟨g1, 0, none⟩)]] w fun e w' => e = .returned (.bool b) ∧ Below w.heap.size w w' := by
 have hc := ixf_b g1 p x m c l w hn hm hl hp
 have hi := ixF_iff p l 0
 obtain ⟨z, hz⟩ : ∃ z, ixF p 0 l = z := ⟨_, rfl⟩
 rw [hz, hb] at hi
 rw [hz] at hc
 have HC := Lib.hid hc
 clear hz hb hn hm hl hp hc
 rcases hi with ⟨h1, rfl⟩ | ⟨h1, rfl⟩
 ·go_enter Try.func28, Try.ntmps28
  go_wp2_with fail
  refine HC.out.mono ?_
  rintro e w1 ⟨rfl, hb1⟩
  have HB := Lib.hid hb1
  clear hb1
  go_wp2_with fail
  go_ret
  exact ⟨rfl, HB.out⟩
 ·have h2 : ¬ 0 ≤ z := by omega
  go_enter Try.func28, Try.ntmps28
  go_wp2_with fail
  refine HC.out.mono ?_
  rintro e w1 ⟨rfl, hb1⟩
  have HB := Lib.hid hb1
  clear hb1
  go_wp2_with fail
  go_ret
  exact ⟨by show Ending.returned (.bool (decide (0 ≤ z))) = _; rw [decide_eq_false (by omega)], HB.out⟩
set_option maxHeartbeats 2000000 in
theorem ixf_n1 (g1 : Nat) (p : Rt → Bool) (x : Option Addr) (m c : Nat) (l : List Rt) (w : World) (hn : l.length = m) (hm : m ≤ 9223372036854775807) (hl : RowAt 6 rtC w x l)
 (hp : ∀ W, Below w.heap.size w W → ∀ y ∈ l, Calls Try.prog 59 #[.agg #[.string y.nm, .int .i64 y.sg, y.pa.v, y.po.v, y.ov.v, y.fl.v], .pointer (some ⟨g1, 0, none⟩)] W fun e w' => e = .returned (.bool (p y)) ∧ Below W.heap.size W w') :
 Calls Try.prog 53 #[.slice x m c, .func (.func 59) #[] #[.pointer (some ⟨g1, 0, none⟩)]] w fun e w' => e = .returned (.int .i64 (ixF p 0 l)) ∧ Below w.heap.size w w' := by
 have HN := Lib.hid hn
 have HP := Lib.hid hp
 have HR := Lib.hid hl
 have HM := Lib.hid hm
 clear hn hp hl hm
 go_enter Try.func53, Try.ntmps53
 go_wp2_with fail
 go_loopg [5, 8] m (fun g _ i wr => ∃ k : Nat, k + g = m ∧ i = .int .i64 (k : Int) ∧ ixF p k (l.drop k) = ixF p 0 l ∧ Below w.heap.size w wr)
 case atStart => exact ⟨0, by omega, rfl, rfl, Below.refl _ _⟩
 case round =>
  obtain ⟨k, hk, rfl, hb, hbw⟩ := hrel
  have HB := Lib.hid hb
  have HBW := Lib.hid hbw
  have HK := Lib.hid hk
  clear hb hbw hk
  by_cases hlt : k < m
  ·obtain ⟨y, hy⟩ : ∃ y, l[k]? = some y := ⟨_, List.getElem?_eq_getElem (by rw [HN.out]; exact hlt)⟩
   rcases HR.out.below HBW.out with hnil | ⟨b, off, rfl, hc⟩
   ·rw [hnil] at hy; simp at hy
   have z0 := hc k _ hy 0 _ rfl
   have z1 := hc k _ hy 1 _ rfl
   have z2 := hc k _ hy 2 _ rfl
   have z3 := hc k _ hy 3 _ rfl
   have z4 := hc k _ hy 4 _ rfl
   have z5 := hc k _ hy 5 _ rfl
   rw [Nat.add_zero] at z0
   have hd := ixF_drop (p := p) hy
   have d1 : (0 : Int) ≤ k := by omega
   have d2 : (k : Int) < m := by omega
   have e1 := sa_wsucc hlt HM.out
   have HLT := Lib.hid hlt
   have hcall := HP.out wr HBW.out y (List.mem_of_getElem? hy)
   obtain ⟨D, hD⟩ : ∃ D, p y = D := ⟨_, rfl⟩
   rw [hD] at hcall hd
   obtain ⟨m1, hm1⟩ : ∃ n, y.pa.l.length = n := ⟨_, rfl⟩
   obtain ⟨m2, hm2⟩ : ∃ n, y.po.l.length = n := ⟨_, rfl⟩
   obtain ⟨m3, hm3⟩ : ∃ n, y.ov.l.length = n := ⟨_, rfl⟩
   obtain ⟨m4, hm4⟩ : ∃ n, y.fl.l.length = n := ⟨_, rfl⟩
   rw [slv hm1, slv hm2, slv hm3, slv hm4] at hcall
   rw [slv hm1] at z2
   rw [slv hm2] at z3
   rw [slv hm3] at z4
   rw [slv hm4] at z5
   clear hm1 hm2 hm3 hm4
   have HC := Lib.hid hcall
   clear hc hy hcall hD hlt
   cases D with
   | true =>
     have HF : Hid (ixF p 0 l = k) := Lib.hid (HB.out.symm.trans (by rw [hd, if_pos rfl]))
     clear hd
     go_wp2_with fail
     refine HC.out.mono ?_
     rintro e w5 ⟨rfl, hb5⟩
     have HB5 := Lib.hid (below_on HBW.out hb5)
     clear hb5
     go_wp2_with fail
     go_ret
     exact ⟨by rw [HF.out]; rfl, HB5.out⟩
   | false =>
     have HT : Hid (ixF p (k + 1) (l.drop (k + 1)) = ixF p 0 l) := Lib.hid (Eq.trans (by rw [hd, if_neg (by decide)]) HB.out)
     clear hd
     go_wp2_with fail
     refine HC.out.mono ?_
     rintro e w5 ⟨rfl, hb5⟩
     have HB5 := Lib.hid (below_on HBW.out hb5)
     clear hb5
     go_wp2_with fail
     go_roundg (m - (k + 1))
     case rel => exact ⟨k + 1, sa_next HK.out HLT.out, by go_num, HT.out, HB5.out⟩
     case measure => exact sa_less HK.out HLT.out
  ·have hkm : m = k := by have := HK.out; omega
   subst hkm
   have HF : Hid (ixF p 0 l = -1) := Lib.hid (HB.out.symm.trans (ixF_end HN.out))
   go_wp2_with fail
   go_ret
   exact ⟨by rw [HF.out]; rfl, HBW.out⟩
theorem conf_n1 (b : Bool) (g1 : Nat) (p : Rt → Bool) (x : Option Addr) (m c : Nat) (l : List Rt) (w : World) (hb : l.any p = b) (hn : l.length = m) (hm : m ≤ 9223372036854775807) (hl : RowAt 6 rtC w x l)
 (hp : ∀ W, Below w.heap.size w W → ∀ y ∈ l, Calls Try.prog 59 #[.agg #[.string y.nm, .int .i64 y.sg, y.pa.v, y.po.v, y.ov.v, y.fl.v], .pointer (some ⟨g1, 0, none⟩)] W fun e w' => e = .returned (.bool (p y)) ∧ Below W.heap.size W w') :
 Calls Try.prog 28 #[.slice x m c, .func (.func 59) #[] #[.pointer (some ⟨g1, 0, none⟩)]] w fun e w' => e = .returned (.bool b) ∧ Below w.heap.size w w' := by
 have hc := ixf_n1 g1 p x m c l w hn hm hl hp
 have hi := ixF_iff p l 0
 obtain ⟨z, hz⟩ : ∃ z, ixF p 0 l = z := ⟨_, rfl⟩
 rw [hz, hb] at hi
 rw [hz] at hc
 have HC := Lib.hid hc
 clear hz hb hn hm hl hp hc
 rcases hi with ⟨h1, rfl⟩ | ⟨h1, rfl⟩
 ·go_enter Try.func28, Try.ntmps28
  go_wp2_with fail
  refine HC.out.mono ?_
  rintro e w1 ⟨rfl, hb1⟩
  have HB := Lib.hid hb1
  clear hb1
  go_wp2_with fail
  go_ret
  exact ⟨rfl, HB.out⟩
 ·have h2 : ¬ 0 ≤ z := by omega
  go_enter Try.func28, Try.ntmps28
  go_wp2_with fail
  refine HC.out.mono ?_
  rintro e w1 ⟨rfl, hb1⟩
  have HB := Lib.hid hb1
  clear hb1
  go_wp2_with fail
  go_ret
  exact ⟨by show Ending.returned (.bool (decide (0 ≤ z))) = _; rw [decide_eq_false (by omega)], HB.out⟩
set_option maxHeartbeats 2000000 in
theorem ixf_c (g1 g2 : Nat) (p : (Int × Bool) → Bool) (x : Option Addr) (m c : Nat) (l : List (Int × Bool)) (w : World) (hn : l.length = m) (hm : m ≤ 9223372036854775807) (hl : RowAt 2 ndC w x l)
 (hp : ∀ W, Below w.heap.size w W → ∀ y ∈ l, Calls Try.prog 34 #[.agg #[.int .i64 y.1, .bool y.2], .pointer (some ⟨g1, 0, none⟩), .pointer (some ⟨g2, 0, none⟩)] W fun e w' => e = .returned (.bool (p y)) ∧ Below W.heap.size W w') :
 Calls Try.prog 94 #[.slice x m c, .func (.func 34) #[] #[.pointer (some ⟨g1, 0, none⟩), .pointer (some ⟨g2, 0, none⟩)]] w fun e w' => e = .returned (.int .i64 (ixF p 0 l)) ∧ Below w.heap.size w w' := by
 have HN := Lib.hid hn
 have HP := Lib.hid hp
 have HR := Lib.hid hl
 have HM := Lib.hid hm
 clear hn hp hl hm
 go_enter Try.func94, Try.ntmps94
 go_wp2_with fail
 go_loopg [5, 8] m (fun g _ i wr => ∃ k : Nat, k + g = m ∧ i = .int .i64 (k : Int) ∧ ixF p k (l.drop k) = ixF p 0 l ∧ Below w.heap.size w wr)
 case atStart => exact ⟨0, by omega, rfl, rfl, Below.refl _ _⟩
 case round =>
  obtain ⟨k, hk, rfl, hb, hbw⟩ := hrel
  have HB := Lib.hid hb
  have HBW := Lib.hid hbw
  have HK := Lib.hid hk
  clear hb hbw hk
  by_cases hlt : k < m
  ·obtain ⟨y, hy⟩ : ∃ y, l[k]? = some y := ⟨_, List.getElem?_eq_getElem (by rw [HN.out]; exact hlt)⟩
   rcases HR.out.below HBW.out with hnil | ⟨b, off, rfl, hc⟩
   ·rw [hnil] at hy; simp at hy
   have z0 := hc k _ hy 0 _ rfl
   have z1 := hc k _ hy 1 _ rfl
   rw [Nat.add_zero] at z0
   have hd := ixF_drop (p := p) hy
   have d1 : (0 : Int) ≤ k := by omega
   have d2 : (k : Int) < m := by omega
   have e1 := sa_wsucc hlt HM.out
   have HLT := Lib.hid hlt
   have hcall := HP.out wr HBW.out y (List.mem_of_getElem? hy)
   obtain ⟨D, hD⟩ : ∃ D, p y = D := ⟨_, rfl⟩
   rw [hD] at hcall hd
   have HC := Lib.hid hcall
   clear hc hy hcall hD hlt
   cases D with
   | true =>
     have HF : Hid (ixF p 0 l = k) := Lib.hid (HB.out.symm.trans (by rw [hd, if_pos rfl]))
     clear hd
     go_wp2_with fail
     refine HC.out.mono ?_
     rintro e w5 ⟨rfl, hb5⟩
     have HB5 := Lib.hid (below_on HBW.out hb5)
     clear hb5
     go_wp2_with fail
     go_ret
     exact ⟨by rw [HF.out]; rfl, HB5.out⟩
   | false =>
     have HT : Hid (ixF p (k + 1) (l.drop (k + 1)) = ixF p 0 l) := Lib.hid (Eq.trans (by rw [hd, if_neg (by decide)]) HB.out)
     clear hd
     go_wp2_with fail
     refine HC.out.mono ?_
     rintro e w5 ⟨rfl, hb5⟩
     have HB5 := Lib.hid (below_on HBW.out hb5)
     clear hb5
     go_wp2_with fail
     go_roundg (m - (k + 1))
     case rel => exact ⟨k + 1, sa_next HK.out HLT.out, by go_num, HT.out, HB5.out⟩
     case measure => exact sa_less HK.out HLT.out
  ·have hkm : m = k := by have := HK.out; omega
   subst hkm
   have HF : Hid (ixF p 0 l = -1) := Lib.hid (HB.out.symm.trans (ixF_end HN.out))
   go_wp2_with fail
   go_ret
   exact ⟨by rw [HF.out]; rfl, HBW.out⟩
theorem conf_c (b : Bool) (g1 g2 : Nat) (p : (Int × Bool) → Bool) (x : Option Addr) (m c : Nat) (l : List (Int × Bool)) (w : World) (hb : l.any p = b) (hn : l.length = m) (hm : m ≤ 9223372036854775807) (hl : RowAt 2 ndC w x l)
 (hp : ∀ W, Below w.heap.size w W → ∀ y ∈ l, Calls Try.prog 34 #[.agg #[.int .i64 y.1, .bool y.2], .pointer (some ⟨g1, 0, none⟩), .pointer (some ⟨g2, 0, none⟩)] W fun e w' => e = .returned (.bool (p y)) ∧ Below W.heap.size W w') :
 Calls Try.prog 60 #[.slice x m c, .func (.func 34) #[] #[.pointer (some ⟨g1, 0, none⟩), .pointer (some ⟨g2, 0, none⟩)]] w fun e w' => e = .returned (.bool b) ∧ Below w.heap.size w w' := by
 have hc := ixf_c g1 g2 p x m c l w hn hm hl hp
 have hi := ixF_iff p l 0
 obtain ⟨z, hz⟩ : ∃ z, ixF p 0 l = z := ⟨_, rfl⟩
 rw [hz, hb] at hi
 rw [hz] at hc
 have HC := Lib.hid hc
 clear hz hb hn hm hl hp hc
 rcases hi with ⟨h1, rfl⟩ | ⟨h1, rfl⟩
 ·go_enter Try.func60, Try.ntmps60
  go_wp2_with fail
  refine HC.out.mono ?_
  rintro e w1 ⟨rfl, hb1⟩
  have HB := Lib.hid hb1
  clear hb1
  go_wp2_with fail
  go_ret
  exact ⟨rfl, HB.out⟩
 ·have h2 : ¬ 0 ≤ z := by omega
  go_enter Try.func60, Try.ntmps60
  go_wp2_with fail
  refine HC.out.mono ?_
  rintro e w1 ⟨rfl, hb1⟩
  have HB := Lib.hid hb1
  clear hb1
  go_wp2_with fail
  go_ret
  exact ⟨by show Ending.returned (.bool (decide (0 ≤ z))) = _; rw [decide_eq_false (by omega)], HB.out⟩
set_option maxHeartbeats 2000000 in
theorem ixf_d (g1 : Nat) (p : (Int × Bool) → Bool) (x : Option Addr) (m c : Nat) (l : List (Int × Bool)) (w : World) (hn : l.length = m) (hm : m ≤ 9223372036854775807) (hl : RowAt 2 ndC w x l)
 (hp : ∀ W, Below w.heap.size w W → ∀ y ∈ l, Calls Try.prog 36 #[.agg #[.int .i64 y.1, .bool y.2], .pointer (some ⟨g1, 0, none⟩)] W fun e w' => e = .returned (.bool (p y)) ∧ Below W.heap.size W w') :
 Calls Try.prog 94 #[.slice x m c, .func (.func 36) #[] #[.pointer (some ⟨g1, 0, none⟩)]] w fun e w' => e = .returned (.int .i64 (ixF p 0 l)) ∧ Below w.heap.size w w' := by
 have HN := Lib.hid hn
 have HP := Lib.hid hp
 have HR := Lib.hid hl
 have HM := Lib.hid hm
 clear hn hp hl hm
 go_enter Try.func94, Try.ntmps94
 go_wp2_with fail
 go_loopg [5, 8] m (fun g _ i wr => ∃ k : Nat, k + g = m ∧ i = .int .i64 (k : Int) ∧ ixF p k (l.drop k) = ixF p 0 l ∧ Below w.heap.size w wr)
 case atStart => exact ⟨0, by omega, rfl, rfl, Below.refl _ _⟩
 case round =>
  obtain ⟨k, hk, rfl, hb, hbw⟩ := hrel
  have HB := Lib.hid hb
  have HBW := Lib.hid hbw
  have HK := Lib.hid hk
  clear hb hbw hk
  by_cases hlt : k < m
  ·obtain ⟨y, hy⟩ : ∃ y, l[k]? = some y := ⟨_, List.getElem?_eq_getElem (by rw [HN.out]; exact hlt)⟩
   rcases HR.out.below HBW.out with hnil | ⟨b, off, rfl, hc⟩
   ·rw [hnil] at hy; simp at hy
   have z0 := hc k _ hy 0 _ rfl
   have z1 := hc k _ hy 1 _ rfl
   rw [Nat.add_zero] at z0
   have hd := ixF_drop (p := p) hy
   have d1 : (0 : Int) ≤ k := by omega
   have d2 : (k : Int) < m := by omega
   have e1 := sa_wsucc hlt HM.out
   have HLT := Lib.hid hlt
   have hcall := HP.out wr HBW.out y (List.mem_of_getElem? hy)
   obtain ⟨D, hD⟩ : ∃ D, p y = D := ⟨_, rfl⟩
   rw [hD] at hcall hd
   have HC := Lib.hid hcall
   clear hc hy hcall hD hlt
   cases D with
   | true =>
     have HF : Hid (ixF p 0 l = k) := Lib.hid (HB.out.symm.trans (by rw [hd, if_pos rfl]))
     clear hd
     go_wp2_with fail
     refine HC.out.mono ?_
     rintro e w5 ⟨rfl, hb5⟩
     have HB5 := Lib.hid (below_on HBW.out hb5)
     clear hb5
     go_wp2_with fail
     go_ret
     exact ⟨by rw [HF.out]; rfl, HB5.out⟩
   | false =>
     have HT : Hid (ixF p (k + 1) (l.drop (k + 1)) = ixF p 0 l) := Lib.hid (Eq.trans (by rw [hd, if_neg (by decide)]) HB.out)
     clear hd
     go_wp2_with fail
     refine HC.out.mono ?_
     rintro e w5 ⟨rfl, hb5⟩
     have HB5 := Lib.hid (below_on HBW.out hb5)
     clear hb5
     go_wp2_with fail
     go_roundg (m - (k + 1))
     case rel => exact ⟨k + 1, sa_next HK.out HLT.out, by go_num, HT.out, HB5.out⟩
     case measure => exact sa_less HK.out HLT.out
  ·have hkm : m = k := by have := HK.out; omega
   subst hkm
   have HF : Hid (ixF p 0 l = -1) := Lib.hid (HB.out.symm.trans (ixF_end HN.out))
   go_wp2_with fail
   go_ret
   exact ⟨by rw [HF.out]; rfl, HBW.out⟩
theorem conf_d (b : Bool) (g1 : Nat) (p : (Int × Bool) → Bool) (x : Option Addr) (m c : Nat) (l : List (Int × Bool)) (w : World) (hb : l.any p = b) (hn : l.length = m) (hm : m ≤ 9223372036854775807) (hl : RowAt 2 ndC w x l)
 (hp : ∀ W, Below w.heap.size w W → ∀ y ∈ l, Calls Try.prog 36 #[.agg #[.int .i64 y.1, .bool y.2], .pointer (some ⟨g1, 0, none⟩)] W fun e w' => e = .returned (.bool (p y)) ∧ Below W.heap.size W w') :
 Calls Try.prog 60 #[.slice x m c, .func (.func 36) #[] #[.pointer (some ⟨g1, 0, none⟩)]] w fun e w' => e = .returned (.bool b) ∧ Below w.heap.size w w' := by
 have hc := ixf_d g1 p x m c l w hn hm hl hp
 have hi := ixF_iff p l 0
 obtain ⟨z, hz⟩ : ∃ z, ixF p 0 l = z := ⟨_, rfl⟩
 rw [hz, hb] at hi
 rw [hz] at hc
 have HC := Lib.hid hc
 clear hz hb hn hm hl hp hc
 rcases hi with ⟨h1, rfl⟩ | ⟨h1, rfl⟩
 ·go_enter Try.func60, Try.ntmps60
  go_wp2_with fail
  refine HC.out.mono ?_
  rintro e w1 ⟨rfl, hb1⟩
  have HB := Lib.hid hb1
  clear hb1
  go_wp2_with fail
  go_ret
  exact ⟨rfl, HB.out⟩
 ·have h2 : ¬ 0 ≤ z := by omega
  go_enter Try.func60, Try.ntmps60
  go_wp2_with fail
  refine HC.out.mono ?_
  rintro e w1 ⟨rfl, hb1⟩
  have HB := Lib.hid hb1
  clear hb1
  go_wp2_with fail
  go_ret
  exact ⟨by show Ending.returned (.bool (decide (0 ≤ z))) = _; rw [decide_eq_false (by omega)], HB.out⟩
end Go.Proofs.Ythnpekbmaapgnaa
