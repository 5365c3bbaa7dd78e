/-
  Walks of chapter 7: the set of numbers, both ways; two rows of numbers held against each other; the document's List, Count, Lowest.
-/
import Derived.Test.YtkhkaofpmcnllaaDoorBitsW
import Derived.Test.YtkhkaofpmcnllaaDoorAppend
import Derived.Deep.LoopGhost
import Derived.Deep.QuietTactic
import Derived.BigQuiet
namespace Go.Proofs.YtkhkaofpmcnllaaDoor
open Go.RowKit
attribute [local irreducible] pw hasBit withBit woBit mems ofN withI anyN anyAt anyR

/-- the cells of a row of numbers -/
def intVals (l : List Int) : List Value := l.map fun n => Value.int .i64 n
/-- a row of numbers lies here -/
def IntsAt (w : World) (a : Option Addr) (l : List Int) : Prop :=
  (∀ c ∈ l, -9223372036854775808 ≤ c ∧ c ≤ 9223372036854775807) ∧ (l = [] ∨ ∃ b off, a = some ⟨b, off, none⟩ ∧ ∀ i c, l[i]? = some c → w.cell? ⟨b, off + i, none⟩ = some (.int .i64 c))
theorem cell_later {w w' : World} {p : Addr} {v : Value} (hb : Below w.heap.size w w') (h : w.cell? p = some v) : w'.cell? p = some v := by
  rw [hb.cell (World.block_lt_of_cell? _ _ h)]; exact h
theorem IntsAt.below {w w' : World} {a : Option Addr} {l : List Int} (hb : Below w.heap.size w w') (h : IntsAt w a l) : IntsAt w' a l :=
  ⟨h.1, h.2.imp id fun ⟨b, off, ha, hc⟩ => ⟨b, off, ha, fun i c hi => cell_later hb (hc i c hi)⟩⟩
theorem withI_in (s : Nat) (n : Int) (h : 0 ≤ n ∧ n ≤ 63) : withI s n = withBit s n.toNat := by unfold withI; rw [if_pos h]
theorem withI_out (s : Nat) (n : Int) (h : n < 0 ∨ 63 < n) : withI s n = s := by unfold withI; rw [if_neg (by omega)]
theorem withI_any (s : Nat) (n : Int) (w : World) (hs : s < 18446744073709551616) :
    Calls Tryd.prog 13 #[.int .u64 s, .int .i64 n] w fun e w' => e = .returned (.int .u64 ((withI s n : Nat) : Int)) ∧ w = w' := by
  by_cases h : 0 ≤ n ∧ n ≤ 63
  · rw [withI_in s n h]
    obtain ⟨m, rfl⟩ : ∃ m : Nat, n = m := ⟨n.toNat, by omega⟩
    rw [show (m : Int).toNat = m by omega]
    exact with_any s m w (by omega) hs
  · rw [withI_out s n (by omega)]
    exact with_out s n w (by omega)
/-- the bits of one number, any number -/
def oneI (n : Int) : Nat := if 0 ≤ n ∧ n ≤ 63 then pw n.toNat else 0
theorem oneI_any (n : Int) (w : World) :
    Calls Tryd.prog 31 #[.int .i64 n] w fun e w' => e = .returned (.int .u64 ((oneI n : Nat) : Int)) ∧ w = w' := by
  by_cases h : 0 ≤ n ∧ n ≤ 63
  · rw [oneI, if_pos h]
    obtain ⟨m, rfl⟩ : ∃ m : Nat, n = m := ⟨n.toNat, by omega⟩
    rw [show (m : Int).toNat = m by omega]
    exact one_any m w (by omega)
  · rw [oneI, if_neg h]
    exact one_out n w (by omega)
theorem oneI_form (s : Nat) (n : Int) (hs : s < 18446744073709551616) : bits .or .u64 (s : Int) ((oneI n : Nat) : Int) = ((withI s n : Nat) : Int) := by
  by_cases h : 0 ≤ n ∧ n ≤ 63
  · rw [oneI, if_pos h, withI_in s n h]
    exact or_form s n.toNat (by omega) hs
  · rw [oneI, if_neg h, withI_out s n (by omega)]
    exact or_zero64 s hs
attribute [local irreducible] oneI
theorem take_get {l : List Int} {k : Nat} {x : Int} (h : l[k]? = some x) : l.take (k + 1) = l.take k ++ [x] := by
  rw [List.take_add_one, h]; rfl
theorem of_any (a : Option Addr) (n cap : Nat) (l : List Int) (w : World) (hn : l.length = n) (hm : n ≤ maxLen) (hl : IntsAt w a l) :
    Calls Tryd.prog 17 #[.slice a n cap] w fun e w' => e = .returned (.int .u64 ((ofN l : Nat) : Int)) ∧ w = w' := by
  have HN := Lib.hid hn
  have hm' : (n : Int) ≤ 9223372036854775807 := by unfold maxLen at hm; omega
  clear hn hm
  go_enter Tryd.func17, Tryd.ntmps17
  go_wp2
  go_loop [3, 8] (fun s i => ∃ k x : Nat, k ≤ n ∧ i = .int .i64 k ∧ x = ofN (l.take k) ∧ s = .int .u64 x) (fun _ i => n - (intOf i).toNat)
  case atStart => exact ⟨0, 0, by omega, rfl, by rw [List.take_zero]; unfold ofN; rfl, rfl⟩
  case round =>
    obtain ⟨k, x, hk, rfl, hx, rfl⟩ := hrel
    have HX := Lib.hid hx
    by_cases hlt : k < n
    · obtain ⟨c, hc⟩ : ∃ c, l[k]? = some c := ⟨_, List.getElem?_eq_getElem (by rw [HN.out]; exact hlt)⟩
      obtain ⟨h1, h2⟩ := hl
      rcases h2 with hnil | ⟨b, off, rfl, hcell⟩
      · rw [hnil] at hc; simp at hc
      have z := hcell k c hc
      have hxl : x < 18446744073709551616 := by rw [hx]; exact ofN_lt _
      have HF := Lib.hid (oneI_form x c hxl)
      have HT : Hid (withI x c = ofN (l.take (k + 1))) := Lib.hid (by rw [take_get hc, ofN_snoc, hx])
      clear hx hc hcell h1
      go_wp2_with fail
      refine (oneI_any c _).mono ?_
      rintro e w' ⟨rfl, rfl⟩
      go_wp2_with fail
      go_round
      case rel => exact ⟨k + 1, withI x c, by omega, by go_num, HT.out, by rw [← HF.out]⟩
      case measure => simp [intOf]; omega
    · obtain rfl : k = n := by omega
      clear hx
      go_wp2_with fail
      go_ret
      refine ⟨?_, rfl⟩
      rw [HX.out, ← HN.out, List.take_length]; rfl
theorem rof_any (a : Option Addr) (n cap : Nat) (l : List Int) (w : World) (hn : l.length = n) (hm : n ≤ maxLen) (hl : IntsAt w a l) :
    Calls Tryd.prog 18 #[.slice a n cap] w fun e w' => e = .returned (.int .u64 ((ofN l : Nat) : Int)) ∧ w = w' := by
  have HN := Lib.hid hn
  have hm' : (n : Int) ≤ 9223372036854775807 := by unfold maxLen at hm; omega
  clear hn hm
  go_enter Tryd.func18, Tryd.ntmps18
  go_wp2
  go_loop [3, 4] (fun s i => ∃ k x : Nat, k ≤ n ∧ i = .int .i64 k ∧ x = ofN (l.take k) ∧ s = .int .u64 x) (fun _ i => n - (intOf i).toNat)
  case atStart => exact ⟨0, 0, by omega, rfl, by rw [List.take_zero]; unfold ofN; rfl, rfl⟩
  case round =>
    obtain ⟨k, x, hk, rfl, hx, rfl⟩ := hrel
    have HX := Lib.hid hx
    by_cases hlt : k < n
    · obtain ⟨c, hc⟩ : ∃ c, l[k]? = some c := ⟨_, List.getElem?_eq_getElem (by rw [HN.out]; exact hlt)⟩
      obtain ⟨h1, h2⟩ := hl
      rcases h2 with hnil | ⟨b, off, rfl, hcell⟩
      · rw [hnil] at hc; simp at hc
      have z := hcell k c hc
      have hxl : x < 18446744073709551616 := by rw [hx]; exact ofN_lt _
      have HT : Hid (withI x c = ofN (l.take (k + 1))) := Lib.hid (by rw [take_get hc, ofN_snoc, hx])
      clear hx hc hcell h1
      go_wp2_with fail
      refine (withI_any x c _ hxl).mono ?_
      rintro e w' ⟨rfl, rfl⟩
      go_wp2_with fail
      go_round
      case rel => exact ⟨k + 1, withI x c, by omega, by go_num, HT.out, rfl⟩
      case measure => simp [intOf]; omega
    · obtain rfl : k = n := by omega
      clear hx
      go_wp2_with fail
      go_ret
      refine ⟨?_, rfl⟩
      rw [HX.out, ← HN.out, List.take_length]; rfl
theorem below_drewN {B : Nat} {a b : World} (h : Below B a b) (n : Nat) : Below B a (b.drewN n) := ⟨h.os, h.tape, h.output, h.size, h.block⟩
/-- two rows of the same numbers are the same -/
theorem same_ints (a b : Option Addr) (n ca cb : Nat) (l : List Int) (w : World) (hn : l.length = n) (hm : n ≤ maxLen) (ha : IntsAt w a l) (hb : IntsAt w b l) :
    Calls Tryd.prog 21 #[.slice a n ca, .slice b n cb] w fun e w' => e = .returned (.bool true) ∧ Below w.heap.size w w' := by
  have HN := Lib.hid hn
  have hm' : (n : Int) ≤ 9223372036854775807 := by unfold maxLen at hm; omega
  clear hn hm
  go_enter Tryd.func21, Tryd.ntmps21
  go_wp2_with fail
  go_loopg [5] n (fun m i wr => ∃ k, k + m = n ∧ i = .int .i64 k ∧ Below w.heap.size w wr)
  case atStart => exact ⟨0, by omega, rfl, Below.refl _ _⟩
  case round =>
    obtain ⟨k, hk, rfl, hB⟩ := hrel
    by_cases hlt : k < n
    · obtain ⟨c, hc⟩ : ∃ c, l[k]? = some c := ⟨_, List.getElem?_eq_getElem (by rw [HN.out]; exact hlt)⟩
      rcases ha.2 with hnil | ⟨b1, o1, rfl, hcell1⟩
      · rw [hnil] at hc; simp at hc
      rcases hb.2 with hnil | ⟨b2, o2, rfl, hcell2⟩
      · rw [hnil] at hc; simp at hc
      have x1 := cell_later hB (hcell1 k c hc)
      have x2 := cell_later hB (hcell2 k c hc)
      have d1 : (k : Int) < n := by omega
      have d2 : (0 : Int) ≤ k := by omega
      clear ha hb hcell1 hcell2 hc
      go_wp2_with fail
      go_quiet (fail)
      have hB9 := below_drewN hB nq
      clear x1 x2 hB
      go_wp2_with fail
      go_roundg (n - (k + 1))
      case rel => exact ⟨k + 1, by omega, by go_num, hB9⟩
      case measure => omega
    · obtain rfl : k = n := by omega
      go_wp2_with fail
      go_ret
      exact ⟨rfl, hB⟩
end Go.Proofs.YtkhkaofpmcnllaaDoor
