/-
  The walk of the statement BitsList of chapter 7.
-/
import Derived.Test.YtkhkaofpmcnllaaDoorBitsLawA
import Derived.Test.YtkhkaofpmcnllaaDoorObj
namespace Go.Proofs.YtkhkaofpmcnllaaDoor
open Go.RowKit
attribute [local irreducible] pw hasBit withBit woBit mems ofN withI anyN anyAt anyR

theorem own_apart {w w' : World} {base g n : Nat} {e : TypeId} {sz : Nat} {v : Value} {xs : List Value} (h : w.ownsRow base e sz v n xs) (ho : Only g w w') (hg : g < base) : w'.ownsRow base e sz v n xs :=
  h.kept (row := some g) ⟨ho.os, ho.tape, ho.output, ho.size, fun k hk hne => ho.block k hk (fun x => hne (by rw [x]))⟩ (.inr (fun hv => by have := (h.lt g hv).1; omega))
/-- the row v may have been written over: nothing else has turned -/
def Spoilt (base : Nat) (w3 wr : World) (v : Value) (n : Nat) : Prop :=
  (v = .slice none 0 0 ∧ n = 0 ∧ wr = w3) ∨ ∃ g c cur, v = .slice (some ⟨g, 0, none⟩) n c ∧ base ≤ g ∧ g < w3.heap.size ∧ n ≤ cur.size ∧ wr.heap[g]? = some (.cells cur 3 (0, 0)) ∧ Only g w3 wr
theorem Spoilt.start {w3 : World} {base n : Nat} {v : Value} {xs : List Value} (h : w3.ownsRow base 3 1 v n xs) : Spoilt base w3 w3 v n := by
  rcases h.2 with ⟨h1, h2⟩ | ⟨g, cap, cur, rfl, hg, hheap, hncap, hcm, hsz, _⟩
  · exact .inl ⟨h1, h2, rfl⟩
  · exact .inr ⟨g, cap, cur, rfl, hg, blk_lt hheap, by omega, hheap, Only.refl g _⟩
theorem Spoilt.below {base : Nat} {w w3 wr : World} {v : Value} {n : Nat} (h : Spoilt base w3 wr v n) (hb : Below base w w3) (hs : base ≤ w3.heap.size) : Below base w wr := by
  rcases h with ⟨_, _, rfl⟩ | ⟨g, c, cur, _, h1, _, _, _, h2⟩
  · exact hb
  · exact Only.below hb h1 hs h2
theorem Spoilt.own {base b2 : Nat} {w3 wr : World} {v u : Value} {n m : Nat} {xs : List Value} (h : Spoilt base w3 wr v n) (ho : w3.ownsRow b2 3 1 u m xs) (hv : ∀ g, v.ownBlock = some g → g < b2) : wr.ownsRow b2 3 1 u m xs := by
  rcases h with ⟨_, _, rfl⟩ | ⟨g, c, cur, rfl, _, _, _, _, h2⟩
  · exact ho
  · exact own_apart ho h2 (hv g rfl)
theorem walk_BitsList (a0 : Int) (w : World) (w0 : (Lit.int .u64 a0).wf = true) (ht : TabAt w) :
    Calls Tryd.prog 5 #[.int .u64 a0] w fun e w' => e = .returned (.bool true) ∧ Below w.heap.size w w' := by
  obtain ⟨x, rfl, hx⟩ := u64_nat w0
  obtain ⟨n, hn⟩ : ∃ n, (mems x 64).length = n := ⟨_, rfl⟩
  obtain ⟨lo, hlo⟩ : ∃ m, lowN x = m := ⟨_, rfl⟩
  have n64 : n ≤ 64 := by rw [← hn]; exact mems_len x 64
  have HL : ∀ w, Calls Tryd.prog 19 #[.int .u64 x] w fun e w' => ∃ v, e = .returned v ∧ w'.ownsRow w.heap.size 3 1 v n (natVals (mems x 64)) ∧ Below w.heap.size w w' := fun w => by have := list_any x w hx; rw [hn] at this; exact this
  have HRL : ∀ w, Calls Tryd.prog 20 #[.int .u64 x] w fun e w' => ∃ v, e = .returned v ∧ w'.ownsRow w.heap.size 3 1 v n (natVals (mems x 64)) ∧ Below w.heap.size w w' := fun w => by have := rlist_any x w hx; rw [hn] at this; exact this
  have HC : ∀ w, Calls Tryd.prog 22 #[.int .u64 x] w fun e w' => e = .returned (.int .i64 (n : Int)) ∧ w = w' := fun w => by have := count_any x w hx; rw [hn] at this; exact this
  have HRC : ∀ w, Calls Tryd.prog 23 #[.int .u64 x] w fun e w' => e = .returned (.int .i64 (n : Int)) ∧ Below w.heap.size w w' := fun w => by have := rcount_any x w hx; rw [hn] at this; exact this
  have HO : ∀ w, TabAt w → Calls Tryd.prog 24 #[.int .u64 x] w fun e w' => e = .returned (.int .i64 (lo : Int)) ∧ w = w' := fun w ht => by have := low_any x w hx ht; rw [hlo] at this; exact this
  have HRO : ∀ w, Calls Tryd.prog 25 #[.int .u64 x] w fun e w' => e = .returned (.int .i64 (lo : Int)) ∧ Below w.heap.size w w' := fun w => by have := rlow_any x w hx; rw [hlo] at this; exact this
  have HN : Hid ((ints (mems x 64)).length = n) := Lib.hid (by rw [ints_len, hn])
  have HM := Lib.hid hn
  have hsm := mems_small x
  clear hn hlo w0 hx
  go_enter Tryd.func5, Tryd.ntmps5
  go_wp2_with fail
  refine (HL _).mono ?_
  rintro e w1 ⟨v1, rfl, hO1, hb1⟩
  obtain ⟨a1, c1, rfl, hI1⟩ := own_ints hsm HM.out hO1
  go_wp2_with fail
  refine (HRL _).mono ?_
  rintro e w2 ⟨v2, rfl, hO2, hb2⟩
  obtain ⟨a2, c2, rfl, hI2⟩ := own_ints hsm HM.out hO2
  go_wp2_with fail
  refine (same_ints a1 a2 n c1 c2 _ _ HN.out (by unfold maxLen; omega) (hI1.below hb2) hI2).mono ?_
  rintro e w3 ⟨rfl, hb3⟩
  have hS3 := Spoilt.start (own_below hb3 (own_below hb2 hO1))
  have hO3 := own_below hb3 hO2
  have hlt := fun g hg => (hO1.lt g hg).2
  have hB3 := below_on hb1 (below_on hb2 hb3)
  clear hO1 hI1 hO2 hI2 hb1 hb2 hb3
  go_wp2_with fail
  go_loopg [5] n (fun m i wr => ∃ k, k + m = n ∧ i = .int .i64 k ∧ Spoilt w.heap.size w3 wr (.slice a1 n c1) n)
  case atStart => exact ⟨0, by omega, rfl, hS3⟩
  case round =>
    obtain ⟨k, hk, rfl, hS⟩ := hrel
    by_cases hkn : k < n
    · rcases hS with ⟨_, h0, _⟩ | ⟨g, c, cur, hv, hg1, hg2, hcs, hheap, ho⟩
      · omega
      cases hv
      have hcell := blk_cell hheap k _ (Array.getElem?_eq_getElem (show k < cur.size by omega))
      have f1 := blk_free hheap
      have hnext : Spoilt w.heap.size w3 (wr.setCell ⟨g, k, none⟩ (.int .i64 (-1))) (.slice (some ⟨g, 0, none⟩) n c1) n :=
        .inr ⟨g, c1, _, rfl, hg1, hg2, by simpa using hcs, blk_set hheap k _, ho.setCell rfl _⟩
      clear hS3 hheap ho hlt
      go_wp2_with fail
      go_roundg (n - (k + 1))
      case rel => exact ⟨k + 1, by omega, by go_num, hnext⟩
      case measure => omega
    · obtain rfl : k = n := by omega
      have hO4 := hS.own hO3 hlt
      obtain ⟨a2', c2', he, hI4⟩ := own_ints hsm HM.out hO4
      cases he
      have hB4 := hS.below hB3 hB3.size
      clear hS hS3 hO4 hO3 hB3 hlt
      go_wp2_with fail
      refine (HL _).mono ?_
      rintro e w5 ⟨v5, rfl, hO5, hb5⟩
      obtain ⟨a5, c5, rfl, hI5⟩ := own_ints hsm HM.out hO5
      clear hO5
      go_wp2_with fail
      refine (same_ints a5 a2 _ c5 c2 _ _ HN.out (by unfold maxLen; omega) hI5 (hI4.below hb5)).mono ?_
      rintro e w6 ⟨rfl, hb6⟩
      have hB6 := below_on hB4 (below_on hb5 hb6)
      clear hI5 hI4 hb5 hb6 hB4
      go_wp2_with fail
      refine (HC _).mono ?_
      rintro e w7 ⟨rfl, rfl⟩
      go_wp2_with fail
      refine (HRC _).mono ?_
      rintro e w8 ⟨rfl, hb8⟩
      have hB8 := below_on hB6 hb8
      clear hB6 hb8
      go_wp2_with fail
      refine (HO _ (ht.below hB8)).mono ?_
      rintro e w9 ⟨rfl, rfl⟩
      go_wp2_with fail
      refine (HRO _).mono ?_
      rintro e w10 ⟨rfl, hb10⟩
      have hB10 := below_on hB8 hb10
      clear hB8 hb10
      go_wp2_with fail
      refine (works_any _ (ht.below hB10)).mono ?_
      rintro e w11 ⟨rfl, hb11⟩
      go_wp2_with fail
      go_ret
      exact ⟨rfl, below_on hB10 hb11⟩
end Go.Proofs.YtkhkaofpmcnllaaDoor
