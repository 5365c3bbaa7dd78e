/-
  Walks: topo.twice of needs.
-/
import Derived.Test.YtdkcpejlojdijaaToR
namespace Go.Proofs.Ytdkcpejlojdijaa
open Go.RowKit
attribute [local irreducible] ixF
set_option maxHeartbeats 1000000 in
theorem ixf_twn (gk gx : Nat) (p : Int × Bool → Bool) (x : Option Addr) (m c : Nat) (l : List (Int × Bool)) (w : World) (hn : l.length = m) (hm : m ≤ 9223372036854775807) (hl : RowAt 2 ndC w x l)
    (hp : ∀ W, Below w.heap.size w W → ∀ n, Calls Try.prog 57 #[.agg #[.int .i64 n.1, .bool n.2], .pointer (some ⟨gk, 0, none⟩), .pointer (some ⟨gx, 0, none⟩)] W fun e w' => e = .returned (.bool (p n)) ∧ Below W.heap.size W w') :
    Calls Try.prog 61 #[.slice x m c, .func (.func 57) #[] #[.pointer (some ⟨gk, 0, none⟩), .pointer (some ⟨gx, 0, none⟩)]] w fun e w' => e = .returned (.int .i64 (ixF p 0 l)) ∧ Below w.heap.size w w' := by
  have HN := Lib.hid hn
  have HP := Lib.hid hp
  have HR := Lib.hid hl
  clear hn hp hl
  go_enter Try.func61, Try.ntmps61
  go_wp2_with fail
  go_loopg [5, 8] m (fun g _ i wr => ∃ k : Nat, k + g = m ∧ i = .int .i64 (k : Int) ∧ ixF p k (l.drop k) = ixF p 0 l ∧ Below w.heap.size w wr)
  case atStart => exact ⟨0, by omega, rfl, rfl, Below.refl _ _⟩
  case round =>
    obtain ⟨k, hk, rfl, hb, hbw⟩ := hrel
    have HB := Lib.hid hb
    have HBW := Lib.hid hbw
    clear hb hbw
    by_cases hlt : k < m
    · obtain ⟨y, hy⟩ : ∃ y, l[k]? = some y := ⟨_, List.getElem?_eq_getElem (by rw [HN.out]; exact hlt)⟩
      rcases HR.out.below HBW.out with hnil | ⟨b, off, rfl, hc⟩
      · rw [hnil] at hy; simp at hy
      have z0 := hc k _ hy 0 _ rfl
      have z1 := hc k _ hy 1 _ rfl
      rw [Nat.add_zero] at z0
      have hd := ixF_drop (p := p) hy
      have d1 : (0 : Int) ≤ k := by omega
      have d2 : (k : Int) < m := by omega
      have e1 : wrap64 ((k : Int) + 1) = (k : Int) + 1 := by unfold wrap64; omega
      have HK := Lib.hid hk
      have hcall := HP.out wr HBW.out y
      obtain ⟨D, hD⟩ : ∃ D, p y = D := ⟨_, rfl⟩
      rw [hD] at hcall hd
      have HC := Lib.hid hcall
      clear hc hy hk hcall hD
      cases D with
      | true =>
        have HF : Hid (ixF p 0 l = k) := Lib.hid (HB.out.symm.trans (by rw [hd, if_pos rfl]))
        clear hd
        go_wp2_with fail
        refine HC.out.mono ?_
        rintro e w5 ⟨rfl, hb5⟩
        have HB5 := Lib.hid (below_on HBW.out hb5)
        clear hb5
        go_wp2_with fail
        go_ret
        exact ⟨by rw [HF.out]; rfl, HB5.out⟩
      | false =>
        have HT : Hid (ixF p (k + 1) (l.drop (k + 1)) = ixF p 0 l) := Lib.hid (Eq.trans (by rw [hd, if_neg (by decide)]) HB.out)
        clear hd
        go_wp2_with fail
        refine HC.out.mono ?_
        rintro e w5 ⟨rfl, hb5⟩
        have HB5 := Lib.hid (below_on HBW.out hb5)
        clear hb5
        go_wp2_with fail
        go_roundg (m - (k + 1))
        case rel => exact ⟨k + 1, by have := HK.out; omega, by go_num, HT.out, HB5.out⟩
        case measure => have := HK.out; omega
    · have hkm : m = k := by omega
      subst hkm
      have HF : Hid (ixF p 0 l = -1) := Lib.hid (HB.out.symm.trans (ixF_end HN.out))
      go_wp2_with fail
      go_ret
      exact ⟨by rw [HF.out]; rfl, HBW.out⟩
theorem containsf_twn (b : Bool) (gk gx : Nat) (p : Int × Bool → Bool) (x : Option Addr) (m c : Nat) (l : List (Int × Bool)) (w : World) (hb : l.any p = b) (hn : l.length = m) (hm : m ≤ 9223372036854775807) (hl : RowAt 2 ndC w x l)
    (hp : ∀ W, Below w.heap.size w W → ∀ n, Calls Try.prog 57 #[.agg #[.int .i64 n.1, .bool n.2], .pointer (some ⟨gk, 0, none⟩), .pointer (some ⟨gx, 0, none⟩)] W fun e w' => e = .returned (.bool (p n)) ∧ Below W.heap.size W w') :
    Calls Try.prog 56 #[.slice x m c, .func (.func 57) #[] #[.pointer (some ⟨gk, 0, none⟩), .pointer (some ⟨gx, 0, none⟩)]] w fun e w' => e = .returned (.bool b) ∧ Below w.heap.size w w' := by
  have hc := ixf_twn gk gx p x m c l w hn hm hl hp
  have hi := ixF_iff p l 0
  obtain ⟨z, hz⟩ : ∃ z, ixF p 0 l = z := ⟨_, rfl⟩
  rw [hz, hb] at hi
  rw [hz] at hc
  have HC := Lib.hid hc
  clear hz hb hn hm hl hp hc
  rcases hi with ⟨h1, rfl⟩ | ⟨h1, rfl⟩
  · go_enter Try.func56, Try.ntmps56
    go_wp2_with fail
    refine HC.out.mono ?_
    rintro e w1 ⟨rfl, hb1⟩
    have HB := Lib.hid hb1
    clear hb1
    go_wp2_with fail
    go_ret
    exact ⟨rfl, HB.out⟩
  · have h2 : ¬ 0 ≤ z := by omega
    go_enter Try.func56, Try.ntmps56
    go_wp2_with fail
    refine HC.out.mono ?_
    rintro e w1 ⟨rfl, hb1⟩
    have HB := Lib.hid hb1
    clear hb1
    go_wp2_with fail
    go_ret
    exact ⟨by show Ending.returned (.bool (decide (0 ≤ z))) = _; rw [decide_eq_false (by omega)], HB.out⟩
/-- is a number of the row among those ahead of it? -/
def dupN : List (Int × Bool) → List (Int × Bool) → Bool
  | _, [] => false
  | pre, y :: t => (pre.any fun n => decide (n.1 = y.1)) || dupN (pre ++ [y]) t
theorem dupN_drop {l : List (Int × Bool)} {y : Int × Bool} {k : Nat} (h : l[k]? = some y) : dupN (l.take k) (l.drop k) = (((l.take k).any fun n => decide (n.1 = y.1)) || dupN (l.take (k + 1)) (l.drop (k + 1))) := by
  have hk : k < l.length := (List.getElem?_eq_some_iff.1 h).1
  rw [List.drop_eq_getElem_cons hk, (List.getElem?_eq_some_iff.1 h).2, List.take_add_one, h]
  rfl
theorem dupN_end {l : List (Int × Bool)} {k : Nat} (h : l.length = k) : dupN (l.take k) (l.drop k) = false := by rw [List.drop_eq_nil_of_le (by omega)]; rfl
attribute [local irreducible] dupN
set_option maxHeartbeats 2000000 in
theorem twice_nd (x : Option Addr) (m c : Nat) (l : List (Int × Bool)) (w : World) (hn : l.length = m) (hmc : m ≤ c) (hm : c ≤ 9223372036854775807) (hl : RowAt 2 ndC w x l) :
    Calls Try.prog 41 #[.slice x m c, .func (.func 42) #[] #[]] w fun e w' => e = .returned (.bool (dupN [] l)) ∧ Below w.heap.size w w' := by
  have HN := Lib.hid hn
  have HR := Lib.hid hl
  clear hn hl
  obtain ⟨gkb, hgkb⟩ : ∃ g, g = w.heap.size := ⟨_, rfl⟩
  have HG := Lib.hid hgkb
  go_enter Try.func41, Try.ntmps41
  go_upto_region 1 with fail
  have hk0 := alloc1 w (.cells #[.func (.func 42) #[] #[]] 78) (Below.refl _ _)
  have hb0 := below1 w (.cells #[.func (.func 42) #[] #[]] 78)
  obtain ⟨W, hW⟩ : ∃ W, W = w.alloc (.cells #[.func (.func 42) #[] #[]] 78) := ⟨_, rfl⟩
  rw [← hW] at hk0 hb0 ⊢
  rw [← hgkb] at hk0 ⊢
  have HK0 := Lib.hid hk0
  have HB0 := Lib.hid hb0
  clear hW hk0 hb0 hgkb
  go_wp2_with fail
  go_loopg [5, 6, 9] m (fun g _ _ i wr => ∃ k : Nat, k + g = m ∧ i = .int .i64 (k : Int) ∧ dupN (l.take k) (l.drop k) = dupN [] l ∧ Below W.heap.size W wr)
  case atStart => exact ⟨0, by omega, rfl, rfl, Below.refl _ _⟩
  case round =>
    obtain ⟨k, hk, rfl, hb, hbw⟩ := hrel
    have HB := Lib.hid hb
    have HBW := Lib.hid hbw
    clear hb hbw
    by_cases hlt : k < m
    · obtain ⟨y, hy⟩ : ∃ y, l[k]? = some y := ⟨_, List.getElem?_eq_getElem (by rw [HN.out]; exact hlt)⟩
      have hrow := HR.out.below (below_on HB0.out HBW.out)
      have HROW := Lib.hid hrow
      rcases hrow with hnil | ⟨b, off, rfl, hc⟩
      · rw [hnil] at hy; simp at hy
      have z0 := hc k _ hy 0 _ rfl
      have z1 := hc k _ hy 1 _ rfl
      rw [Nat.add_zero] at z0
      have hd := dupN_drop hy
      have d1 : (0 : Int) ≤ k := by omega
      have d2 : (k : Int) < m := by omega
      have d3 : (k : Int) ≤ c := by omega
      have d4 : k ≤ c := by omega
      have e1 : wrap64 ((k : Int) + 1) = (k : Int) + 1 := by unfold wrap64; omega
      have HK := Lib.hid hk
      have hbx := below1 wr (.cells #[.int .i64 y.1, .bool y.2] 32)
      have hgx := alloc1 wr (.cells #[.int .i64 y.1, .bool y.2] 32) (Below.refl _ _)
      obtain ⟨D, hD⟩ : ∃ D, ((l.take k).any fun n => decide (n.1 = y.1)) = D := ⟨_, rfl⟩
      rw [hD] at hd
      have HC := Lib.hid (containsf_twn D gkb wr.heap.size (fun n => decide (n.1 = y.1)) (some ⟨b, off, none⟩) k c (l.take k) (wr.alloc (.cells #[.int .i64 y.1, .bool y.2] 32)) hD (by rw [List.length_take, HN.out]; omega) (by omega) ((HROW.out.take k).below hbx) (fun V hV n => twice1n_is _ gkb wr.heap.size y n 78 32 (0, 0) (0, 0) V rfl (blk_keep hV (blk_keep hbx (blk_keep HBW.out HK0.out))) (blk_keep hV hgx)))
      have HBX := Lib.hid hbx
      clear hc hy hk hbx hgx hD HROW
      cases D with
      | true =>
        have HF : Hid (dupN [] l = true) := Lib.hid (HB.out.symm.trans (by rw [hd]; rfl))
        clear hd
        go_wp2_with fail
        refine HC.out.mono ?_
        rintro e w5 ⟨rfl, hb5⟩
        have HB5 := Lib.hid (below_on HB0.out (below_on HBW.out (below_on HBX.out hb5)))
        clear hb5
        go_wp2_with fail
        go_ret
        exact ⟨by rw [HF.out]; rfl, HB5.out⟩
      | false =>
        have HT : Hid (dupN (l.take (k + 1)) (l.drop (k + 1)) = dupN [] l) := Lib.hid (Eq.trans (by rw [hd]; rfl) HB.out)
        clear hd
        go_wp2_with fail
        refine HC.out.mono ?_
        rintro e w5 ⟨rfl, hb5⟩
        have HB5 := Lib.hid (below_on HBW.out (below_on HBX.out hb5))
        clear hb5
        go_wp2_with fail
        go_roundg (m - (k + 1))
        case rel => exact ⟨k + 1, by have := HK.out; omega, by go_num, HT.out, HB5.out⟩
        case measure => have := HK.out; omega
    · have hkm : m = k := by omega
      subst hkm
      have HF : Hid (dupN [] l = false) := Lib.hid (HB.out.symm.trans (dupN_end HN.out))
      have HB5 := Lib.hid (below_on HB0.out HBW.out)
      go_wp2_with fail
      go_ret
      exact ⟨by rw [HF.out]; rfl, HB5.out⟩
end Go.Proofs.Ytdkcpejlojdijaa
