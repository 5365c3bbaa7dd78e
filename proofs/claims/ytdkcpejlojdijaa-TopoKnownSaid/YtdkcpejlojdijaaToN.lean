/-
  Walks: topo.has, and what it hands to the library.
-/
import Derived.Test.YtdkcpejlojdijaaToM
namespace Go.Proofs.Ytdkcpejlojdijaa
open Go.RowKit
theorem has1_is (gp : Nat) (pt : Int) (t : TypeId) (fr : Nat × Nat) (n : Int × Bool) (w : World) (h : w.heap[gp]? = some (.cells #[.int .i64 pt] t fr)) :
    Calls Try.prog 58 #[.agg #[.int .i64 n.1, .bool n.2], .pointer (some ⟨gp, 0, none⟩)] w fun e w' => e = .returned (.bool (decide (n.1 = pt))) ∧ Below w.heap.size w w' := by
  have c0 := blk_cell h 0 _ rfl
  have hlt := blk_lt h
  clear h
  by_cases hp : n.1 = pt
  · have q1 : (n.1 == pt) = true := by simpa using hp
    have HP := Lib.hid hp
    clear hp
    go_enter Try.func58, Try.ntmps58
    go_wp2_with fail
    go_ret
    refine ⟨?_, below1 _ _⟩
    rw [decide_eq_true HP.out]
    first | rfl | (show Ending.returned (.bool (n.1 == pt)) = _; rw [q1]) | (show Ending.returned (.bool (decide (n.1 = pt))) = _; rw [decide_eq_true HP.out])
  · have q1 : (n.1 == pt) = false := by simpa using hp
    have HP := Lib.hid hp
    clear hp
    go_enter Try.func58, Try.ntmps58
    go_wp2_with fail
    go_ret
    refine ⟨?_, below1 _ _⟩
    rw [decide_eq_false HP.out]
    first | rfl | (show Ending.returned (.bool (n.1 == pt)) = _; rw [q1]) | (show Ending.returned (.bool (decide (n.1 = pt))) = _; rw [decide_eq_false HP.out])
/-- the first place, from place k on, of which p holds; -1: there is none -/
def ixF {α : Type} (p : α → Bool) : Nat → List α → Int
  | _, [] => -1
  | k, y :: t => if p y then (k : Int) else ixF p (k + 1) t
theorem ixF_iff {α : Type} (p : α → Bool) : ∀ (l : List α) (k : Nat), (0 ≤ ixF p k l ∧ l.any p = true) ∨ (ixF p k l < 0 ∧ l.any p = false) := by
  intro l
  induction l with
  | nil => intro k; exact .inr ⟨by unfold ixF; decide, rfl⟩
  | cons y l ih =>
    intro k
    cases h : p y with
    | true => exact .inl ⟨by unfold ixF; rw [if_pos h]; omega, by simp [h]⟩
    | false =>
      have e1 : ixF p k (y :: l) = ixF p (k + 1) l := by
        show (if p y then (k : Int) else ixF p (k + 1) l) = _
        rw [if_neg (by rw [h]; decide)]
      have e2 : (y :: l).any p = l.any p := by simp [h]
      rw [e1, e2]
      exact ih (k + 1)
theorem ixF_drop {α : Type} {p : α → Bool} {l : List α} {y : α} {k : Nat} (h : l[k]? = some y) : ixF p k (l.drop k) = if p y then (k : Int) else ixF p (k + 1) (l.drop (k + 1)) := by
  have hk : k < l.length := (List.getElem?_eq_some_iff.1 h).1
  rw [List.drop_eq_getElem_cons hk, (List.getElem?_eq_some_iff.1 h).2]
  rfl
theorem ixF_end {α : Type} {p : α → Bool} {l : List α} {k : Nat} (h : l.length = k) : ixF p k (l.drop k) = -1 := by rw [List.drop_eq_nil_of_le (by omega)]; rfl
attribute [local irreducible] ixF
set_option maxHeartbeats 1000000 in
theorem ixf_has (gp : Nat) (p : Int × Bool → Bool) (x : Option Addr) (m c : Nat) (l : List (Int × Bool)) (w : World) (hn : l.length = m) (hm : m ≤ 9223372036854775807) (hl : RowAt 2 ndC w x l)
    (hp : ∀ W, Below w.heap.size w W → ∀ n, Calls Try.prog 58 #[.agg #[.int .i64 n.1, .bool n.2], .pointer (some ⟨gp, 0, none⟩)] W fun e w' => e = .returned (.bool (p n)) ∧ Below W.heap.size W w') :
    Calls Try.prog 61 #[.slice x m c, .func (.func 58) #[] #[.pointer (some ⟨gp, 0, none⟩)]] w fun e w' => e = .returned (.int .i64 (ixF p 0 l)) ∧ Below w.heap.size w w' := by
  have HN := Lib.hid hn
  have HP := Lib.hid hp
  have HR := Lib.hid hl
  clear hn hp hl
  go_enter Try.func61, Try.ntmps61
  go_wp2_with fail
  go_loopg [5, 8] m (fun g _ i wr => ∃ k : Nat, k + g = m ∧ i = .int .i64 (k : Int) ∧ ixF p k (l.drop k) = ixF p 0 l ∧ Below w.heap.size w wr)
  case atStart => exact ⟨0, by omega, rfl, rfl, Below.refl _ _⟩
  case round =>
    obtain ⟨k, hk, rfl, hb, hbw⟩ := hrel
    have HB := Lib.hid hb
    have HBW := Lib.hid hbw
    clear hb hbw
    by_cases hlt : k < m
    · obtain ⟨y, hy⟩ : ∃ y, l[k]? = some y := ⟨_, List.getElem?_eq_getElem (by rw [HN.out]; exact hlt)⟩
      rcases HR.out.below HBW.out with hnil | ⟨b, off, rfl, hc⟩
      · rw [hnil] at hy; simp at hy
      have z0 := hc k _ hy 0 _ rfl
      have z1 := hc k _ hy 1 _ rfl
      rw [Nat.add_zero] at z0
      have hd := ixF_drop (p := p) hy
      have d1 : (0 : Int) ≤ k := by omega
      have d2 : (k : Int) < m := by omega
      have e1 : wrap64 ((k : Int) + 1) = (k : Int) + 1 := by unfold wrap64; omega
      have HK := Lib.hid hk
      have hcall := HP.out wr HBW.out y
      obtain ⟨D, hD⟩ : ∃ D, p y = D := ⟨_, rfl⟩
      rw [hD] at hcall hd
      have HC := Lib.hid hcall
      clear hc hy hk hcall hD
      cases D with
      | true =>
        have HF : Hid (ixF p 0 l = k) := Lib.hid (HB.out.symm.trans (by rw [hd, if_pos rfl]))
        clear hd
        go_wp2_with fail
        refine HC.out.mono ?_
        rintro e w5 ⟨rfl, hb5⟩
        have HB5 := Lib.hid (below_on HBW.out hb5)
        clear hb5
        go_wp2_with fail
        go_ret
        exact ⟨by rw [HF.out]; rfl, HB5.out⟩
      | false =>
        have HT : Hid (ixF p (k + 1) (l.drop (k + 1)) = ixF p 0 l) := Lib.hid (Eq.trans (by rw [hd, if_neg (by decide)]) HB.out)
        clear hd
        go_wp2_with fail
        refine HC.out.mono ?_
        rintro e w5 ⟨rfl, hb5⟩
        have HB5 := Lib.hid (below_on HBW.out hb5)
        clear hb5
        go_wp2_with fail
        go_roundg (m - (k + 1))
        case rel => exact ⟨k + 1, by have := HK.out; omega, by go_num, HT.out, HB5.out⟩
        case measure => have := HK.out; omega
    · have hkm : m = k := by omega
      subst hkm
      have HF : Hid (ixF p 0 l = -1) := Lib.hid (HB.out.symm.trans (ixF_end HN.out))
      go_wp2_with fail
      go_ret
      exact ⟨by rw [HF.out]; rfl, HBW.out⟩
end Go.Proofs.Ytdkcpejlojdijaa
