/-
 Layer 10: in, Sides, the library's ContainsFunc with the closures of ilxa.
-/
import Derived.Test.YtpohoannggdbjaaMC
import Derived.Test.YtpohoannggdbjaaME
import Derived.Test.YtpohoannggdbjaaMF
import Derived.Deep.QuietTactic
namespace Go.Proofs.Ytpohoannggdbjaa
open Go.RowKit
set_option maxRecDepth 100000
theorem k_succ {k n : Nat} (h : k < n) (hn : n ≤ 9223372036854775807) : wrap64 ((k : Int) + 1) = (k : Int) + 1 := by unfold wrap64; omega
theorem k_next {i g m : Nat} (h : i + g = m) (hi : i < m) : i + 1 + (m - (i + 1)) = m := by omega
theorem k_less {i g m : Nat} (h : i + g = m) (hi : i < m) : m - (i + 1) < g := by omega
theorem k_box {w : World} {g : Nat} {a b c d : Value} {t : TypeId} {fr : Nat × Nat} (h : w.heap[g]? = some (.cells #[a, b, c, d] t fr)) : w.cell? ⟨g, 0, none⟩ = some a ∧ w.cell? ⟨g, 1, none⟩ = some b ∧ w.cell? ⟨g, 2, none⟩ = some c ∧ w.cell? ⟨g, 3, none⟩ = some d :=
 ⟨blk_cell h 0 _ rfl, blk_cell h 1 _ rfl, blk_cell h 2 _ rfl, blk_cell h 3 _ rfl⟩
theorem k_grown {w W : World} {base : Nat} {e : TypeId} {sz : Nat} {v : Value} {n : Nat} {xs : List Value} {row : Option Nat} (h : w.grownBy W row) (ho : w.ownsRow base e sz v n xs) (hne : ∀ k, v.ownBlock = some k → row ≠ some k) : W.ownsRow base e sz v n xs := by
 refine ⟨ho.1, ho.2.imp id ?_⟩
 rintro ⟨g, cap, cur, h1, h2, h3, h4⟩
 exact ⟨g, cap, cur, h1, h2, grown_keep h h3 (hne g (by rw [h1]; rfl)), h4⟩
theorem k_sh {w : World} {base : Nat} {e : TypeId} {sz : Nat} {v : Value} {n : Nat} {xs : List Value} (h : w.ownsRow base e sz v n xs) : ∃ a c, v = .slice a n c := by
 rcases h.2 with ⟨h1, h2⟩ | ⟨g, cap, cur, h1, _⟩
 ·exact ⟨none, 0, by rw [h1, h2]⟩
 ·exact ⟨_, _, h1⟩
theorem k_rowat {α : Type} {sz B : Nat} {f : α → List Value} (hf : ∀ c, (f c).length = sz) {w : World} {e : TypeId} {v : Value} {l : List α} (h : w.ownsRow B e sz v l.length (l.flatMap f)) : ∃ x c, v = .slice x l.length c ∧ RowAt sz f w x l := by
 rcases h.2 with ⟨h1, h2⟩ | ⟨g, cap, cur, h1, _, h3, _, _, _, h4⟩
 ·exact ⟨none, 0, by rw [h1, h2], .inl (List.length_eq_zero_iff.1 h2)⟩
 ·refine ⟨_, _, h1, .inr ⟨g, 0, rfl, fun i c hi j v hv => ?_⟩⟩
  have k := flat_get hf l i c j v hi hv
  rw [← h4] at k
  rw [Nat.zero_add]
  refine blk_cell h3 _ _ ?_
  rw [List.getElem?_take] at k
  split at k
  ·rw [← Array.getElem?_toList]; exact k
  ·cases k
theorem k_snoc {α : Type} {f : α → List Value} {w : World} {B sz : Nat} {e : TypeId} {v : Value} {R : List α} {x : α} {X : List Value} (hX : X = f x) (h : w.ownsRow B e sz v (R.length + 1) (R.flatMap f ++ X)) : w.ownsRow B e sz v (R ++ [x]).length ((R ++ [x]).flatMap f) := by
 rw [List.flatMap_append, List.length_append]
 show w.ownsRow B e sz v (R.length + 1) (R.flatMap f ++ (f x ++ []))
 rw [List.append_nil, ← hX]
 exact h
attribute [local irreducible] ixF Sl.v pw hasBit withBit
theorem lp_next {k g n : Nat} (h : k + g = n) (hlt : k < n) : k + 1 + (n - (k + 1)) = n := by omega
theorem lp_less {k g n : Nat} (h : k + g = n) (hlt : k < n) : n - (k + 1) < g := by omega
theorem wsucc9 {k n : Nat} (h : k < n) (hn : n ≤ 9223372036854775807) : wrap64 ((k : Int) + 1) = (k : Int) + 1 := by unfold wrap64; omega
theorem in_is (b : Bool) (x n : Nat) (w : World) (hn : n ≤ 63) (hx : x < 18446744073709551616) (hb : hasBit x n = b) :
 Calls Try.prog 32 #[.int .u64 (x : Int), .int .i64 (n : Int)] w fun e w' => e = .returned (.bool b) ∧ w = w' := by
 have h := (has_form x n hx).trans hb
 have h0 : (0 : Int) ≤ n := by omega
 have h1 : min n 64 = n := by omega
 have h2 : ¬ (64 : Int) ≤ n := by omega
 clear hb hx hn
 go_enter Try.func32, Try.ntmps32
 go_wp2_with fail
 go_ret
 exact ⟨by first | rfl | (rw [h]) | (simp only [h]), rfl⟩
theorem sides_any (o n r : Nat) (a : Option Addr) (len cap : Nat) (w : World) :
 Calls Try.prog 38 #[.agg #[.int .u64 (o : Int), .int .u32 (n : Int), .int .u32 (r : Int), .slice a len cap]] w
  fun e w' => e = .returned (.tuple #[.int .u32 (bits .andNot .u32 n r), .int .u32 (bits .andNot .u32 r n)]) ∧ Below w.heap.size w w' := by
 go_enter Try.func38, Try.ntmps38
 go_wp2
 go_quiet (fail)
 go_wp2
 go_ret2
 exact ⟨rfl, below_drewN (below1 _ _) _⟩
set_option maxHeartbeats 2000000 in
theorem ixf_free (g1 : Nat) (p : Int → Bool) (x : Option Addr) (m c : Nat) (l : List Int) (w : World) (hn : l.length = m) (hm : m ≤ 9223372036854775807) (hl : RowAt 1 intC w x l)
 (hp : ∀ W, Below w.heap.size w W → ∀ y ∈ l, Calls Try.prog 58 #[.int .i64 y, .pointer (some ⟨g1, 0, none⟩)] W fun e w' => e = .returned (.bool (p y)) ∧ Below W.heap.size W w') :
 Calls Try.prog 67 #[.slice x m c, .func (.func 58) #[] #[.pointer (some ⟨g1, 0, none⟩)]] w fun e w' => e = .returned (.int .i64 (ixF p 0 l)) ∧ Below w.heap.size w w' := by
 have HN := Lib.hid hn
 have HP := Lib.hid hp
 have HR := Lib.hid hl
 have HM := Lib.hid hm
 clear hn hp hl hm
 go_enter Try.func67, Try.ntmps67
 go_wp2_with fail
 go_loopg [5, 8] m (fun g _ i wr => ∃ k : Nat, k + g = m ∧ i = .int .i64 (k : Int) ∧ ixF p k (l.drop k) = ixF p 0 l ∧ Below w.heap.size w wr)
 case atStart => exact ⟨0, by omega, rfl, rfl, Below.refl _ _⟩
 case round =>
  obtain ⟨k, hk, rfl, hb, hbw⟩ := hrel
  have HB := Lib.hid hb
  have HBW := Lib.hid hbw
  have HK := Lib.hid hk
  clear hb hbw hk
  by_cases hlt : k < m
  ·obtain ⟨y, hy⟩ : ∃ y, l[k]? = some y := ⟨_, List.getElem?_eq_getElem (by rw [HN.out]; exact hlt)⟩
   rcases HR.out.below HBW.out with hnil | ⟨b, off, rfl, hc⟩
   ·rw [hnil] at hy; simp at hy
   have z0 := hc k _ hy 0 _ rfl
   rw [Nat.add_zero, Nat.mul_one] at z0
   have hd := ixF_drop (p := p) hy
   have d1 : (0 : Int) ≤ k := by omega
   have d2 : (k : Int) < m := by omega
   have e1 := wsucc9 hlt HM.out
   have HLT := Lib.hid hlt
   have hcall := HP.out wr HBW.out y (List.mem_of_getElem? hy)
   obtain ⟨D, hD⟩ : ∃ D, p y = D := ⟨_, rfl⟩
   rw [hD] at hcall hd
   have HC := Lib.hid hcall
   clear hc hy hcall hD hlt
   cases D with
   | true =>
     have HF : Hid (ixF p 0 l = k) := Lib.hid (HB.out.symm.trans (by rw [hd, if_pos rfl]))
     clear hd
     go_wp2_with fail
     refine HC.out.mono ?_
     rintro e w5 ⟨rfl, hb5⟩
     have HB5 := Lib.hid (below_on HBW.out hb5)
     clear hb5
     go_wp2_with fail
     go_ret
     exact ⟨by rw [HF.out]; rfl, HB5.out⟩
   | false =>
     have HT : Hid (ixF p (k + 1) (l.drop (k + 1)) = ixF p 0 l) := Lib.hid (Eq.trans (by rw [hd, if_neg (by decide)]) HB.out)
     clear hd
     go_wp2_with fail
     refine HC.out.mono ?_
     rintro e w5 ⟨rfl, hb5⟩
     have HB5 := Lib.hid (below_on HBW.out hb5)
     clear hb5
     go_wp2_with fail
     go_roundg (m - (k + 1))
     case rel => exact ⟨k + 1, lp_next HK.out HLT.out, by go_num, HT.out, HB5.out⟩
     case measure => exact lp_less HK.out HLT.out
  ·have hkm : m = k := by have := HK.out; omega
   subst hkm
   have HF : Hid (ixF p 0 l = -1) := Lib.hid (HB.out.symm.trans (ixF_end HN.out))
   go_wp2_with fail
   go_ret
   exact ⟨by rw [HF.out]; rfl, HBW.out⟩
theorem conf_free (b : Bool) (g1 : Nat) (p : Int → Bool) (x : Option Addr) (m c : Nat) (l : List Int) (w : World) (hb : l.any p = b) (hn : l.length = m) (hm : m ≤ 9223372036854775807) (hl : RowAt 1 intC w x l)
 (hp : ∀ W, Below w.heap.size w W → ∀ y ∈ l, Calls Try.prog 58 #[.int .i64 y, .pointer (some ⟨g1, 0, none⟩)] W fun e w' => e = .returned (.bool (p y)) ∧ Below W.heap.size W w') :
 Calls Try.prog 56 #[.slice x m c, .func (.func 58) #[] #[.pointer (some ⟨g1, 0, none⟩)]] w fun e w' => e = .returned (.bool b) ∧ Below w.heap.size w w' := by
 have hc := ixf_free g1 p x m c l w hn hm hl hp
 have hi := ixF_iff p l 0
 obtain ⟨z, hz⟩ : ∃ z, ixF p 0 l = z := ⟨_, rfl⟩
 rw [hz, hb] at hi
 rw [hz] at hc
 have HC := Lib.hid hc
 clear hz hb hn hm hl hp hc
 rcases hi with ⟨h1, rfl⟩ | ⟨h1, rfl⟩
 ·go_enter Try.func56, Try.ntmps56
  go_wp2_with fail
  refine HC.out.mono ?_
  rintro e w1 ⟨rfl, hb1⟩
  have HB := Lib.hid hb1
  clear hb1
  go_wp2_with fail
  go_ret
  exact ⟨rfl, HB.out⟩
 ·have h2 : ¬ 0 ≤ z := by omega
  go_enter Try.func56, Try.ntmps56
  go_wp2_with fail
  refine HC.out.mono ?_
  rintro e w1 ⟨rfl, hb1⟩
  have HB := Lib.hid hb1
  clear hb1
  go_wp2_with fail
  go_ret
  exact ⟨by show Ending.returned (.bool (decide (0 ≤ z))) = _; rw [decide_eq_false (by omega)], HB.out⟩
set_option maxHeartbeats 2000000 in
theorem ixf_lock (g1 : Nat) (p : Int → Bool) (x : Option Addr) (m c : Nat) (l : List Int) (w : World) (hn : l.length = m) (hm : m ≤ 9223372036854775807) (hl : RowAt 1 intC w x l)
 (hp : ∀ W, Below w.heap.size w W → ∀ y ∈ l, Calls Try.prog 19 #[.pointer (some ⟨g1, 0, none⟩), .int .i64 y] W fun e w' => e = .returned (.bool (p y)) ∧ Below W.heap.size W w') :
 Calls Try.prog 67 #[.slice x m c, .func (.func 19) #[.pointer (some ⟨g1, 0, none⟩)] #[]] w fun e w' => e = .returned (.int .i64 (ixF p 0 l)) ∧ Below w.heap.size w w' := by
 have HN := Lib.hid hn
 have HP := Lib.hid hp
 have HR := Lib.hid hl
 have HM := Lib.hid hm
 clear hn hp hl hm
 go_enter Try.func67, Try.ntmps67
 go_wp2_with fail
 go_loopg [5, 8] m (fun g _ i wr => ∃ k : Nat, k + g = m ∧ i = .int .i64 (k : Int) ∧ ixF p k (l.drop k) = ixF p 0 l ∧ Below w.heap.size w wr)
 case atStart => exact ⟨0, by omega, rfl, rfl, Below.refl _ _⟩
 case round =>
  obtain ⟨k, hk, rfl, hb, hbw⟩ := hrel
  have HB := Lib.hid hb
  have HBW := Lib.hid hbw
  have HK := Lib.hid hk
  clear hb hbw hk
  by_cases hlt : k < m
  ·obtain ⟨y, hy⟩ : ∃ y, l[k]? = some y := ⟨_, List.getElem?_eq_getElem (by rw [HN.out]; exact hlt)⟩
   rcases HR.out.below HBW.out with hnil | ⟨b, off, rfl, hc⟩
   ·rw [hnil] at hy; simp at hy
   have z0 := hc k _ hy 0 _ rfl
   rw [Nat.add_zero, Nat.mul_one] at z0
   have hd := ixF_drop (p := p) hy
   have d1 : (0 : Int) ≤ k := by omega
   have d2 : (k : Int) < m := by omega
   have e1 := wsucc9 hlt HM.out
   have HLT := Lib.hid hlt
   have hcall := HP.out wr HBW.out y (List.mem_of_getElem? hy)
   obtain ⟨D, hD⟩ : ∃ D, p y = D := ⟨_, rfl⟩
   rw [hD] at hcall hd
   have HC := Lib.hid hcall
   clear hc hy hcall hD hlt
   cases D with
   | true =>
     have HF : Hid (ixF p 0 l = k) := Lib.hid (HB.out.symm.trans (by rw [hd, if_pos rfl]))
     clear hd
     go_wp2_with fail
     refine HC.out.mono ?_
     rintro e w5 ⟨rfl, hb5⟩
     have HB5 := Lib.hid (below_on HBW.out hb5)
     clear hb5
     go_wp2_with fail
     go_ret
     exact ⟨by rw [HF.out]; rfl, HB5.out⟩
   | false =>
     have HT : Hid (ixF p (k + 1) (l.drop (k + 1)) = ixF p 0 l) := Lib.hid (Eq.trans (by rw [hd, if_neg (by decide)]) HB.out)
     clear hd
     go_wp2_with fail
     refine HC.out.mono ?_
     rintro e w5 ⟨rfl, hb5⟩
     have HB5 := Lib.hid (below_on HBW.out hb5)
     clear hb5
     go_wp2_with fail
     go_roundg (m - (k + 1))
     case rel => exact ⟨k + 1, lp_next HK.out HLT.out, by go_num, HT.out, HB5.out⟩
     case measure => exact lp_less HK.out HLT.out
  ·have hkm : m = k := by have := HK.out; omega
   subst hkm
   have HF : Hid (ixF p 0 l = -1) := Lib.hid (HB.out.symm.trans (ixF_end HN.out))
   go_wp2_with fail
   go_ret
   exact ⟨by rw [HF.out]; rfl, HBW.out⟩
theorem conf_lock (b : Bool) (g1 : Nat) (p : Int → Bool) (x : Option Addr) (m c : Nat) (l : List Int) (w : World) (hb : l.any p = b) (hn : l.length = m) (hm : m ≤ 9223372036854775807) (hl : RowAt 1 intC w x l)
 (hp : ∀ W, Below w.heap.size w W → ∀ y ∈ l, Calls Try.prog 19 #[.pointer (some ⟨g1, 0, none⟩), .int .i64 y] W fun e w' => e = .returned (.bool (p y)) ∧ Below W.heap.size W w') :
 Calls Try.prog 56 #[.slice x m c, .func (.func 19) #[.pointer (some ⟨g1, 0, none⟩)] #[]] w fun e w' => e = .returned (.bool b) ∧ Below w.heap.size w w' := by
 have hc := ixf_lock g1 p x m c l w hn hm hl hp
 have hi := ixF_iff p l 0
 obtain ⟨z, hz⟩ : ∃ z, ixF p 0 l = z := ⟨_, rfl⟩
 rw [hz, hb] at hi
 rw [hz] at hc
 have HC := Lib.hid hc
 clear hz hb hn hm hl hp hc
 rcases hi with ⟨h1, rfl⟩ | ⟨h1, rfl⟩
 ·go_enter Try.func56, Try.ntmps56
  go_wp2_with fail
  refine HC.out.mono ?_
  rintro e w1 ⟨rfl, hb1⟩
  have HB := Lib.hid hb1
  clear hb1
  go_wp2_with fail
  go_ret
  exact ⟨rfl, HB.out⟩
 ·have h2 : ¬ 0 ≤ z := by omega
  go_enter Try.func56, Try.ntmps56
  go_wp2_with fail
  refine HC.out.mono ?_
  rintro e w1 ⟨rfl, hb1⟩
  have HB := Lib.hid hb1
  clear hb1
  go_wp2_with fail
  go_ret
  exact ⟨by show Ending.returned (.bool (decide (0 ≤ z))) = _; rw [decide_eq_false (by omega)], HB.out⟩
set_option maxHeartbeats 2000000 in
theorem ixf_move (g1 : Nat) (p : (Int × Bool) → Bool) (x : Option Addr) (m c : Nat) (l : List (Int × Bool)) (w : World) (hn : l.length = m) (hm : m ≤ 9223372036854775807) (hl : RowAt 2 ndC w x l)
 (hp : ∀ W, Below w.heap.size w W → ∀ y ∈ l, Calls Try.prog 57 #[.agg #[.int .i64 y.1, .bool y.2], .pointer (some ⟨g1, 0, none⟩)] W fun e w' => e = .returned (.bool (p y)) ∧ Below W.heap.size W w') :
 Calls Try.prog 59 #[.slice x m c, .func (.func 57) #[] #[.pointer (some ⟨g1, 0, none⟩)]] w fun e w' => e = .returned (.int .i64 (ixF p 0 l)) ∧ Below w.heap.size w w' := by
 have HN := Lib.hid hn
 have HP := Lib.hid hp
 have HR := Lib.hid hl
 have HM := Lib.hid hm
 clear hn hp hl hm
 go_enter Try.func59, Try.ntmps59
 go_wp2_with fail
 go_loopg [5, 8] m (fun g _ i wr => ∃ k : Nat, k + g = m ∧ i = .int .i64 (k : Int) ∧ ixF p k (l.drop k) = ixF p 0 l ∧ Below w.heap.size w wr)
 case atStart => exact ⟨0, by omega, rfl, rfl, Below.refl _ _⟩
 case round =>
  obtain ⟨k, hk, rfl, hb, hbw⟩ := hrel
  have HB := Lib.hid hb
  have HBW := Lib.hid hbw
  have HK := Lib.hid hk
  clear hb hbw hk
  by_cases hlt : k < m
  ·obtain ⟨y, hy⟩ : ∃ y, l[k]? = some y := ⟨_, List.getElem?_eq_getElem (by rw [HN.out]; exact hlt)⟩
   rcases HR.out.below HBW.out with hnil | ⟨b, off, rfl, hc⟩
   ·rw [hnil] at hy; simp at hy
   have z0 := hc k _ hy 0 _ rfl
   have z1 := hc k _ hy 1 _ rfl
   rw [Nat.add_zero] at z0
   have hd := ixF_drop (p := p) hy
   have d1 : (0 : Int) ≤ k := by omega
   have d2 : (k : Int) < m := by omega
   have e1 := wsucc9 hlt HM.out
   have HLT := Lib.hid hlt
   have hcall := HP.out wr HBW.out y (List.mem_of_getElem? hy)
   obtain ⟨D, hD⟩ : ∃ D, p y = D := ⟨_, rfl⟩
   rw [hD] at hcall hd
   have HC := Lib.hid hcall
   clear hc hy hcall hD hlt
   cases D with
   | true =>
     have HF : Hid (ixF p 0 l = k) := Lib.hid (HB.out.symm.trans (by rw [hd, if_pos rfl]))
     clear hd
     go_wp2_with fail
     refine HC.out.mono ?_
     rintro e w5 ⟨rfl, hb5⟩
     have HB5 := Lib.hid (below_on HBW.out hb5)
     clear hb5
     go_wp2_with fail
     go_ret
     exact ⟨by rw [HF.out]; rfl, HB5.out⟩
   | false =>
     have HT : Hid (ixF p (k + 1) (l.drop (k + 1)) = ixF p 0 l) := Lib.hid (Eq.trans (by rw [hd, if_neg (by decide)]) HB.out)
     clear hd
     go_wp2_with fail
     refine HC.out.mono ?_
     rintro e w5 ⟨rfl, hb5⟩
     have HB5 := Lib.hid (below_on HBW.out hb5)
     clear hb5
     go_wp2_with fail
     go_roundg (m - (k + 1))
     case rel => exact ⟨k + 1, lp_next HK.out HLT.out, by go_num, HT.out, HB5.out⟩
     case measure => exact lp_less HK.out HLT.out
  ·have hkm : m = k := by have := HK.out; omega
   subst hkm
   have HF : Hid (ixF p 0 l = -1) := Lib.hid (HB.out.symm.trans (ixF_end HN.out))
   go_wp2_with fail
   go_ret
   exact ⟨by rw [HF.out]; rfl, HBW.out⟩
theorem conf_move (b : Bool) (g1 : Nat) (p : (Int × Bool) → Bool) (x : Option Addr) (m c : Nat) (l : List (Int × Bool)) (w : World) (hb : l.any p = b) (hn : l.length = m) (hm : m ≤ 9223372036854775807) (hl : RowAt 2 ndC w x l)
 (hp : ∀ W, Below w.heap.size w W → ∀ y ∈ l, Calls Try.prog 57 #[.agg #[.int .i64 y.1, .bool y.2], .pointer (some ⟨g1, 0, none⟩)] W fun e w' => e = .returned (.bool (p y)) ∧ Below W.heap.size W w') :
 Calls Try.prog 39 #[.slice x m c, .func (.func 57) #[] #[.pointer (some ⟨g1, 0, none⟩)]] w fun e w' => e = .returned (.bool b) ∧ Below w.heap.size w w' := by
 have hc := ixf_move g1 p x m c l w hn hm hl hp
 have hi := ixF_iff p l 0
 obtain ⟨z, hz⟩ : ∃ z, ixF p 0 l = z := ⟨_, rfl⟩
 rw [hz, hb] at hi
 rw [hz] at hc
 have HC := Lib.hid hc
 clear hz hb hn hm hl hp hc
 rcases hi with ⟨h1, rfl⟩ | ⟨h1, rfl⟩
 ·go_enter Try.func39, Try.ntmps39
  go_wp2_with fail
  refine HC.out.mono ?_
  rintro e w1 ⟨rfl, hb1⟩
  have HB := Lib.hid hb1
  clear hb1
  go_wp2_with fail
  go_ret
  exact ⟨rfl, HB.out⟩
 ·have h2 : ¬ 0 ≤ z := by omega
  go_enter Try.func39, Try.ntmps39
  go_wp2_with fail
  refine HC.out.mono ?_
  rintro e w1 ⟨rfl, hb1⟩
  have HB := Lib.hid hb1
  clear hb1
  go_wp2_with fail
  go_ret
  exact ⟨by show Ending.returned (.bool (decide (0 ≤ z))) = _; rw [decide_eq_false (by omega)], HB.out⟩
set_option maxHeartbeats 2000000 in
theorem ixf_proc (g1 g2 : Nat) (p : (Int × Bool) → Bool) (x : Option Addr) (m c : Nat) (l : List (Int × Bool)) (w : World) (hn : l.length = m) (hm : m ≤ 9223372036854775807) (hl : RowAt 2 ndC w x l)
 (hp : ∀ W, Below w.heap.size w W → ∀ y ∈ l, Calls Try.prog 40 #[.agg #[.int .i64 y.1, .bool y.2], .pointer (some ⟨g1, 0, none⟩), .pointer (some ⟨g2, 0, none⟩)] W fun e w' => e = .returned (.bool (p y)) ∧ Below W.heap.size W w') :
 Calls Try.prog 59 #[.slice x m c, .func (.func 40) #[] #[.pointer (some ⟨g1, 0, none⟩), .pointer (some ⟨g2, 0, none⟩)]] w fun e w' => e = .returned (.int .i64 (ixF p 0 l)) ∧ Below w.heap.size w w' := by
 have HN := Lib.hid hn
 have HP := Lib.hid hp
 have HR := Lib.hid hl
 have HM := Lib.hid hm
 clear hn hp hl hm
 go_enter Try.func59, Try.ntmps59
 go_wp2_with fail
 go_loopg [5, 8] m (fun g _ i wr => ∃ k : Nat, k + g = m ∧ i = .int .i64 (k : Int) ∧ ixF p k (l.drop k) = ixF p 0 l ∧ Below w.heap.size w wr)
 case atStart => exact ⟨0, by omega, rfl, rfl, Below.refl _ _⟩
 case round =>
  obtain ⟨k, hk, rfl, hb, hbw⟩ := hrel
  have HB := Lib.hid hb
  have HBW := Lib.hid hbw
  have HK := Lib.hid hk
  clear hb hbw hk
  by_cases hlt : k < m
  ·obtain ⟨y, hy⟩ : ∃ y, l[k]? = some y := ⟨_, List.getElem?_eq_getElem (by rw [HN.out]; exact hlt)⟩
   rcases HR.out.below HBW.out with hnil | ⟨b, off, rfl, hc⟩
   ·rw [hnil] at hy; simp at hy
   have z0 := hc k _ hy 0 _ rfl
   have z1 := hc k _ hy 1 _ rfl
   rw [Nat.add_zero] at z0
   have hd := ixF_drop (p := p) hy
   have d1 : (0 : Int) ≤ k := by omega
   have d2 : (k : Int) < m := by omega
   have e1 := wsucc9 hlt HM.out
   have HLT := Lib.hid hlt
   have hcall := HP.out wr HBW.out y (List.mem_of_getElem? hy)
   obtain ⟨D, hD⟩ : ∃ D, p y = D := ⟨_, rfl⟩
   rw [hD] at hcall hd
   have HC := Lib.hid hcall
   clear hc hy hcall hD hlt
   cases D with
   | true =>
     have HF : Hid (ixF p 0 l = k) := Lib.hid (HB.out.symm.trans (by rw [hd, if_pos rfl]))
     clear hd
     go_wp2_with fail
     refine HC.out.mono ?_
     rintro e w5 ⟨rfl, hb5⟩
     have HB5 := Lib.hid (below_on HBW.out hb5)
     clear hb5
     go_wp2_with fail
     go_ret
     exact ⟨by rw [HF.out]; rfl, HB5.out⟩
   | false =>
     have HT : Hid (ixF p (k + 1) (l.drop (k + 1)) = ixF p 0 l) := Lib.hid (Eq.trans (by rw [hd, if_neg (by decide)]) HB.out)
     clear hd
     go_wp2_with fail
     refine HC.out.mono ?_
     rintro e w5 ⟨rfl, hb5⟩
     have HB5 := Lib.hid (below_on HBW.out hb5)
     clear hb5
     go_wp2_with fail
     go_roundg (m - (k + 1))
     case rel => exact ⟨k + 1, lp_next HK.out HLT.out, by go_num, HT.out, HB5.out⟩
     case measure => exact lp_less HK.out HLT.out
  ·have hkm : m = k := by have := HK.out; omega
   subst hkm
   have HF : Hid (ixF p 0 l = -1) := Lib.hid (HB.out.symm.trans (ixF_end HN.out))
   go_wp2_with fail
   go_ret
   exact ⟨by rw [HF.out]; rfl, HBW.out⟩
theorem conf_proc (b : Bool) (g1 g2 : Nat) (p : (Int × Bool) → Bool) (x : Option Addr) (m c : Nat) (l : List (Int × Bool)) (w : World) (hb : l.any p = b) (hn : l.length = m) (hm : m ≤ 9223372036854775807) (hl : RowAt 2 ndC w x l)
 (hp : ∀ W, Below w.heap.size w W → ∀ y ∈ l, Calls Try.prog 40 #[.agg #[.int .i64 y.1, .bool y.2], .pointer (some ⟨g1, 0, none⟩), .pointer (some ⟨g2, 0, none⟩)] W fun e w' => e = .returned (.bool (p y)) ∧ Below W.heap.size W w') :
 Calls Try.prog 39 #[.slice x m c, .func (.func 40) #[] #[.pointer (some ⟨g1, 0, none⟩), .pointer (some ⟨g2, 0, none⟩)]] w fun e w' => e = .returned (.bool b) ∧ Below w.heap.size w w' := by
 have hc := ixf_proc g1 g2 p x m c l w hn hm hl hp
 have hi := ixF_iff p l 0
 obtain ⟨z, hz⟩ : ∃ z, ixF p 0 l = z := ⟨_, rfl⟩
 rw [hz, hb] at hi
 rw [hz] at hc
 have HC := Lib.hid hc
 clear hz hb hn hm hl hp hc
 rcases hi with ⟨h1, rfl⟩ | ⟨h1, rfl⟩
 ·go_enter Try.func39, Try.ntmps39
  go_wp2_with fail
  refine HC.out.mono ?_
  rintro e w1 ⟨rfl, hb1⟩
  have HB := Lib.hid hb1
  clear hb1
  go_wp2_with fail
  go_ret
  exact ⟨rfl, HB.out⟩
 ·have h2 : ¬ 0 ≤ z := by omega
  go_enter Try.func39, Try.ntmps39
  go_wp2_with fail
  refine HC.out.mono ?_
  rintro e w1 ⟨rfl, hb1⟩
  have HB := Lib.hid hb1
  clear hb1
  go_wp2_with fail
  go_ret
  exact ⟨by show Ending.returned (.bool (decide (0 ≤ z))) = _; rw [decide_eq_false (by omega)], HB.out⟩
end Go.Proofs.Ytpohoannggdbjaa
