/-
 Merged: ToH, ToK, ToL, ToM, ToN, ToO, ToP, ToQ, ToR, ToS, ToT, ToU, ToV, ToX, Gen, ToZ, CoA, CoKp, CoB, CoD, CoE.
-/
import Derived.Test.YtpohoannggdbjaaMA
import Derived.Lib.AppendZerosOnto
import Derived.Lib.SliceRun
import Derived.Lib.Walk
import Derived.Deep.LoopGhost
import Derived.MapKept
import Derived.RangeFuncNested
import Derived.RangeFuncBound
import Derived.RangeFuncCalls
import Derived.RangeFuncLeaves
import Derived.RangeFuncBox
import Derived.Shelf.Abstract
import Derived.Shelf.RegionOpen
import Derived.WalkKit
import Derived.OwnWalkIn
import Derived.TacticsInMore
import Derived.LoopNIn
import Derived.LoopIn
import Derived.Maps.AppendAt
namespace Go.Proofs.Ytpohoannggdbjaa
open Go.RowKit
set_option maxRecDepth 100000

theorem srcAt_below {w w' : World} {a : Option Addr} {c : Nat} {l : List Value} (h : SrcAt w a c l) (hb : Below w.heap.size w w') : SrcAt w' a c l := ⟨h.1, h.2.1, fun ad had j u hu => cell_later hb (h.2.2 ad had j u hu)⟩
/-- a row of n elements lies in a block of its own, made since the heap was as great as base -/
def NewRow (sz base : Nat) (w : World) (a : Option Addr) (n : Nat) : Prop := n = 0 ∨ ∃ g cs t, a = some ⟨g, 0, none⟩ ∧ base ≤ g ∧ w.heap[g]? = some (.cells cs t (0, 0)) ∧ n * sz ≤ cs.size
theorem NewRow.mono {sz base base' : Nat} {w : World} {a : Option Addr} {n : Nat} (h : NewRow sz base w a n) (hb : base' ≤ base) : NewRow sz base' w a n := by
 refine h.imp id ?_
 rintro ⟨g, cs, t, h1, h2, h3, h4⟩
 exact ⟨g, cs, t, h1, Nat.le_trans hb h2, h3, h4⟩
theorem NewRow.below {sz base : Nat} {w w' : World} {a : Option Addr} {n : Nat} (h : NewRow sz base w a n) (hb : Below w.heap.size w w') : NewRow sz base w' a n := by
 refine h.imp id ?_
 rintro ⟨g, cs, t, h1, h2, h3, h4⟩
 exact ⟨g, cs, t, h1, h2, blk_keep hb h3, h4⟩
theorem own_sl2 {α : Type} {f : α → List Value} {sz : Nat} {w : World} {base : Nat} {e : TypeId} {v : Value} {n : Nat} {l : List α} (hf : ∀ c, (f c).length = sz) (hn : l.length = n) (h : w.ownsRow base e sz v n (l.flatMap f)) :
 ∃ a c, v = .slice a n c ∧ SlAt sz f w ⟨a, c, l⟩ ∧ NewRow sz base w a n := by
 obtain ⟨a, c, hv, hs⟩ := own_sl hf hn h
 refine ⟨a, c, hv, hs, ?_⟩
 rcases h.2 with ⟨_, rfl⟩ | ⟨g, cap, cur, hv2, hg, hheap, hncap, hcm, hsz, htake⟩
 ·exact .inl rfl
 ·rw [hv] at hv2
  injection hv2 with h1 h2 h3
  refine .inr ⟨g, cur, e, h1, hg, hheap, ?_⟩
  have h4 := congrArg List.length htake
  rw [List.length_take, flat_len hf, hn, Array.length_toList] at h4
  omega

/-- the place of a number, from place k on; -1: it is not there -/
def ixI : Nat → List Int → Int → Int
 | _, [], _ => -1
 | k, y :: t, s => if y = s then (k : Int) else ixI (k + 1) t s
def hasI (l : List Int) (s : Int) : Bool := l.any fun x => decide (x = s)
theorem ixI_iff : ∀ (l : List Int) (k : Nat) (s : Int), (0 ≤ ixI k l s ∧ hasI l s = true) ∨ (ixI k l s < 0 ∧ hasI l s = false) := by
 intro l
 induction l with
 | nil => intro k s; exact .inr ⟨by unfold ixI; decide, by unfold hasI; rfl⟩
 | cons y l ih =>
   intro k s
   by_cases h : y = s
   ·exact .inl ⟨by unfold ixI; rw [if_pos h]; omega, by unfold hasI; simp [h]⟩
   ·have e1 : ixI k (y :: l) s = ixI (k + 1) l s := by
     show (if y = s then (k : Int) else ixI (k + 1) l s) = _
     rw [if_neg h]
    have e2 : hasI (y :: l) s = hasI l s := by unfold hasI; simp [h]
    rw [e1, e2]
    exact ih (k + 1) s
theorem ixI_drop {l : List Int} {s y : Int} {k : Nat} (h : l[k]? = some y) (hy : y ≠ s) : ixI k (l.drop k) s = ixI (k + 1) (l.drop (k + 1)) s := by
 have hk : k < l.length := (List.getElem?_eq_some_iff.1 h).1
 rw [List.drop_eq_getElem_cons hk, (List.getElem?_eq_some_iff.1 h).2]
 show (if y = s then (k : Int) else ixI (k + 1) (l.drop (k + 1)) s) = _
 rw [if_neg hy]
theorem ixI_hit {l : List Int} {s y : Int} {k : Nat} (h : l[k]? = some y) (hy : y = s) : ixI k (l.drop k) s = k := by
 have hk : k < l.length := (List.getElem?_eq_some_iff.1 h).1
 rw [List.drop_eq_getElem_cons hk, (List.getElem?_eq_some_iff.1 h).2]
 show (if y = s then (k : Int) else ixI (k + 1) (l.drop (k + 1)) s) = _
 rw [if_pos hy]
theorem ixI_end {l : List Int} {s : Int} {k : Nat} (h : l.length = k) : ixI k (l.drop k) s = -1 := by rw [List.drop_eq_nil_of_le (by omega)]; rfl
/-- how often a number is in a row -/
def cntI (l : List Int) (s : Int) : Nat := (l.filter fun x => decide (x = s)).length
theorem cntI_take {l : List Int} {s y : Int} {k : Nat} (h : l[k]? = some y) : cntI (l.take (k + 1)) s = cntI (l.take k) s + (if y = s then 1 else 0) := by
 unfold cntI; rw [List.take_add_one, h, List.filter_append, List.length_append]
 by_cases hy : y = s <;> simp [hy]
theorem cntI_le (l : List Int) (s : Int) : cntI l s ≤ l.length := List.length_filter_le _ _
attribute [local irreducible] ixI cntI hasI
theorem index_is (x : Option Addr) (m c : Nat) (l : List Int) (s : Int) (w : World) (hn : l.length = m) (hm : m ≤ 9223372036854775807) (hl : RowAt 1 intC w x l) :
 Calls Try.prog 62 #[.slice x m c, .int .i64 s] w fun e w' => e = .returned (.int .i64 (ixI 0 l s)) ∧ w = w' := by
 have HN := Lib.hid hn
 clear hn
 go_enter Try.func62, Try.ntmps62
 go_wp2_with fail
 go_loopg [5, 8] m (fun g _ i wr => ∃ k : Nat, k + g = m ∧ i = .int .i64 (k : Int) ∧ ixI k (l.drop k) s = ixI 0 l s ∧ w = wr)
 case atStart => exact ⟨0, by omega, rfl, rfl, rfl⟩
 case round =>
  obtain ⟨k, hk, rfl, hb, rfl⟩ := hrel
  have HB := Lib.hid hb
  clear hb
  by_cases hlt : k < m
  ·obtain ⟨y, hy⟩ : ∃ y, l[k]? = some y := ⟨_, List.getElem?_eq_getElem (by rw [HN.out]; exact hlt)⟩
   rcases hl with rfl | ⟨b, off, rfl, hc⟩
   ·simp at hy
   have z0 := hc k y hy 0 _ rfl
   rw [Nat.add_zero, Nat.mul_one] at z0
   have HY := Lib.hid hy
   have d1 : (0 : Int) ≤ k := by omega
   have d2 : (k : Int) < m := by omega
   have e1 : wrap64 ((k : Int) + 1) = (k : Int) + 1 := by unfold wrap64; omega
   have HK := Lib.hid hk
   clear hc hy hk
   by_cases hys : y = s
   ·have HF : Hid (ixI 0 l s = k) := Lib.hid (HB.out.symm.trans (ixI_hit HY.out hys))
    have hbe : (s == y) = true := by simp [hys]
    clear hys
    go_wp2_with fail
    go_ret
    exact ⟨by rw [HF.out]; rfl, rfl⟩
   ·have HT : Hid (ixI (k + 1) (l.drop (k + 1)) s = ixI 0 l s) := Lib.hid ((ixI_drop HY.out hys).symm.trans HB.out)
    have hbe : (s == y) = false := by simpa using fun h => hys h.symm
    clear hys
    go_wp2_with fail
    go_roundg (m - (k + 1))
    case rel => exact ⟨k + 1, by have := HK.out; omega, by go_num, HT.out, rfl⟩
    case measure => have := HK.out; omega
  ·have hkm : m = k := by omega
   subst hkm
   have HF : Hid (ixI 0 l s = -1) := Lib.hid (HB.out.symm.trans (ixI_end HN.out))
   go_wp2_with fail
   go_ret
   exact ⟨by rw [HF.out]; rfl, rfl⟩
theorem contains_is (b : Bool) (x : Option Addr) (m c : Nat) (l : List Int) (s : Int) (w : World) (hB : hasI l s = b) (hn : l.length = m) (hm : m ≤ 9223372036854775807) (hl : RowAt 1 intC w x l) :
 Calls Try.prog 49 #[.slice x m c, .int .i64 s] w fun e w' => e = .returned (.bool b) ∧ w = w' := by
 obtain ⟨z, hz⟩ : ∃ z, ixI 0 l s = z := ⟨_, rfl⟩
 have hi := ixI_iff l 0 s
 rw [hz, hB] at hi
 have HC := Lib.hid (index_is x m c l s w hn hm hl)
 rw [hz] at HC
 clear hz hn hm hl
 rcases hi with ⟨h1, rfl⟩ | ⟨h1, rfl⟩
 ·go_enter Try.func49, Try.ntmps49
  go_wp2_with fail
  refine HC.out.mono ?_
  rintro e w1 ⟨rfl, rfl⟩
  go_wp2_with fail
  go_ret
  exact ⟨rfl, rfl⟩
 ·have h2 : ¬ 0 ≤ z := by omega
  clear h1
  go_enter Try.func49, Try.ntmps49
  go_wp2_with fail
  refine HC.out.mono ?_
  rintro e w1 ⟨rfl, rfl⟩
  go_wp2_with fail
  go_ret
  exact ⟨by show Ending.returned (.bool (decide (0 ≤ z))) = _; rw [decide_eq_false (by omega)], rfl⟩
theorem info_nd : (Try.prog.info? 55).map (fun i => (i.zero, i.size, i.bytes)) = some (some (.agg #[.int .i64 0, .bool false]), 2, 16) := by kernel_rfl

end Go.Proofs.Ytpohoannggdbjaa
namespace Go.Proofs.Ytpohoannggdbjaa
open Go.RowKit
set_option maxRecDepth 100000

set_option maxRecDepth 100000 in
set_option maxHeartbeats 2000000 in
theorem grow_int (n : Nat) (hn : n ≤ 100000) (w : World) : Calls Try.prog 53 #[.slice none 0 0, .int .i64 (n : Int)] w fun e w' => ∃ v, e = .returned v ∧ w'.ownsRow w.heap.size 3 1 v 0 [] ∧ Below w.heap.size w w' := by
 have h1 : ¬ ((n : Int) < 0) := by omega
 have h2 : wrap64 (n : Int) = (n : Int) := by unfold wrap64; omega
 by_cases h0 : n = 0
 ·subst h0
  go_enter Try.func53, Try.ntmps53
  go_wp2_with fail
  go_ret
  exact ⟨_, rfl, World.ownsRow_nil _ _ _ _, Below.refl _ _⟩
 ·have h4 : (n : Int) > 0 := by omega
  have h5 : (0 : Int) < n := by omega
  obtain ⟨i0, hi, hz0, hz1, hz2⟩ := info_parts info_int
  have hrz : ∀ ty, (Builtin.append_ #[53, 3] ty #[.slice none 0 0, .int .i64 (n : Int)]).run Try.prog w = .ok (.slice (some ⟨w.heap.size, 0, none⟩) (0 + n) (grownCap w (0 + n) 0 3)) (w.drew.alloc (.cells (([] : List Value).toArray ++ Builtin.zeroCells (.int .i64 0 : Value).cells n ++ Builtin.zeroCells (.int .i64 0 : Value).cells (grownCap w (0 + n) 0 3 - (0 + n))) 3)) := fun ty =>
   Lib.run_append_grow_zeros w 53 3 ty 3 i0 (.int .i64 0) .i64 .i64 Try.underlying53 Try.underlying3 hi hz0 none 0 0 [] (run_firstCells_none _ _ _ _ _) n (by omega) (by rw [hz1]; decide) (by omega) (by omega) (by rw [hz2]; omega) (growslice_fits (by omega) (by rw [hz2]; omega))
  have hge := grownCap_ge w (0 + n) 0 3
  have hcm := grownCap_le_maxLen w (0 + n) 0 3 (by unfold maxLen; omega)
  obtain ⟨G, hG⟩ : ∃ G, G = grownCap w (0 + n) 0 3 := ⟨_, rfl⟩
  rw [← hG] at hrz hge hcm
  rw [Nat.zero_add] at hrz hge
  obtain ⟨Z, hZ⟩ : ∃ Z, Z = ([] : List Value).toArray ++ Builtin.zeroCells (.int .i64 0 : Value).cells n ++ Builtin.zeroCells (.int .i64 0 : Value).cells (G - n) := ⟨_, rfl⟩
  rw [← hZ] at hrz
  have hs : Z.size = G * 1 := by
   rw [hZ, Array.size_append, Array.size_append, size_zeroCells, size_zeroCells]
   show 0 + n * 1 + (G - n) * 1 = G * 1
   omega
  have hG63 : G ≤ 9223372036854775807 := by unfold maxLen at hcm; exact hcm
  have g1 : (0 : Int) ≤ G := by omega
  have HE : Hid ((w.drew.alloc (.cells Z 3)).ownsRow w.heap.size 3 1 (.slice (some ⟨w.heap.size, 0, none⟩) 0 G) 0 [] ∧ Below w.heap.size w (w.drew.alloc (.cells Z 3))) := Lib.hid ⟨⟨rfl, .inr ⟨w.heap.size, G, Z, rfl, Nat.le_refl _, alloc1 w.drew _ (Below.refl _ _), Nat.zero_le _, hcm, hs, by simp⟩⟩, (Below.refl _ w).drew.alloc (Nat.le_refl _) _⟩
  clear hi hz0 hz1 hz2 hG hZ hs hcm h0
  go_enter Try.func53, Try.ntmps53
  go_wp2_with (at_builtin; refine Lib.wpList_append_run _ rfl _ _ _ _ rfl _ _ rfl rfl _ _ (hrz _) ?_)
  go_ret
  exact ⟨_, rfl, HE.out.1, HE.out.2⟩

set_option maxRecDepth 100000 in
set_option maxHeartbeats 2000000 in
theorem grow_nd (n : Nat) (hn : n ≤ 100000) (w : World) : Calls Try.prog 54 #[.slice none 0 0, .int .i64 (n : Int)] w fun e w' => ∃ v, e = .returned v ∧ w'.ownsRow w.heap.size 55 2 v 0 [] ∧ Below w.heap.size w w' := by
 have h1 : ¬ ((n : Int) < 0) := by omega
 have h2 : wrap64 (n : Int) = (n : Int) := by unfold wrap64; omega
 by_cases h0 : n = 0
 ·subst h0
  go_enter Try.func54, Try.ntmps54
  go_wp2_with fail
  go_ret
  exact ⟨_, rfl, World.ownsRow_nil _ _ _ _, Below.refl _ _⟩
 ·have h4 : (n : Int) > 0 := by omega
  have h5 : (0 : Int) < n := by omega
  obtain ⟨i0, hi, hz0, hz1, hz2⟩ := info_parts info_nd
  have hrz : ∀ ty, (Builtin.append_ #[56, 3] ty #[.slice none 0 0, .int .i64 (n : Int)]).run Try.prog w = .ok (.slice (some ⟨w.heap.size, 0, none⟩) (0 + n) (grownCap w (0 + n) 0 55)) (w.drew.alloc (.cells (([] : List Value).toArray ++ Builtin.zeroCells (.agg #[.int .i64 0, .bool false] : Value).cells n ++ Builtin.zeroCells (.agg #[.int .i64 0, .bool false] : Value).cells (grownCap w (0 + n) 0 55 - (0 + n))) 55)) := fun ty =>
   Lib.run_append_grow_zeros w 56 3 ty 55 i0 (.agg #[.int .i64 0, .bool false]) .i64 .i64 Try.underlying56 Try.underlying3 hi hz0 none 0 0 [] (run_firstCells_none _ _ _ _ _) n (by omega) (by rw [hz1]; decide) (by omega) (by omega) (by rw [hz2]; omega) (growslice_fits (by omega) (by rw [hz2]; omega))
  have hge := grownCap_ge w (0 + n) 0 55
  have hcm := grownCap_le_maxLen w (0 + n) 0 55 (by unfold maxLen; omega)
  obtain ⟨G, hG⟩ : ∃ G, G = grownCap w (0 + n) 0 55 := ⟨_, rfl⟩
  rw [← hG] at hrz hge hcm
  rw [Nat.zero_add] at hrz hge
  obtain ⟨Z, hZ⟩ : ∃ Z, Z = ([] : List Value).toArray ++ Builtin.zeroCells (.agg #[.int .i64 0, .bool false] : Value).cells n ++ Builtin.zeroCells (.agg #[.int .i64 0, .bool false] : Value).cells (G - n) := ⟨_, rfl⟩
  rw [← hZ] at hrz
  have hs : Z.size = G * 2 := by
   rw [hZ, Array.size_append, Array.size_append, size_zeroCells, size_zeroCells]
   show 0 + n * 2 + (G - n) * 2 = G * 2
   omega
  have hG63 : G ≤ 9223372036854775807 := by unfold maxLen at hcm; exact hcm
  have g1 : (0 : Int) ≤ G := by omega
  have HE : Hid ((w.drew.alloc (.cells Z 55)).ownsRow w.heap.size 55 2 (.slice (some ⟨w.heap.size, 0, none⟩) 0 G) 0 [] ∧ Below w.heap.size w (w.drew.alloc (.cells Z 55))) := Lib.hid ⟨⟨rfl, .inr ⟨w.heap.size, G, Z, rfl, Nat.le_refl _, alloc1 w.drew _ (Below.refl _ _), Nat.zero_le _, hcm, hs, by simp⟩⟩, (Below.refl _ w).drew.alloc (Nat.le_refl _) _⟩
  clear hi hz0 hz1 hz2 hG hZ hs hcm h0
  go_enter Try.func54, Try.ntmps54
  go_wp2_with (at_builtin; refine Lib.wpList_append_run _ rfl _ _ _ _ rfl _ _ rfl rfl _ _ (hrz _) ?_)
  go_ret
  exact ⟨_, rfl, HE.out.1, HE.out.2⟩
end Go.Proofs.Ytpohoannggdbjaa
namespace Go.Proofs.Ytpohoannggdbjaa
open Go.RowKit
set_option maxRecDepth 100000

set_option maxRecDepth 100000 in
set_option maxHeartbeats 4000000 in
theorem concat_int2 (g : Nat) (t : TypeId) (fr : Nat × Nat) (a1 a2 : Option Addr) (m1 c1 m2 c2 : Nat) (l1 l2 : List Int) (w : World) (hg : w.heap[g]? = some (.cells #[.slice a1 m1 c1, .slice a2 m2 c2] t fr)) (hS1 : SrcAt w a1 c1 (l1.flatMap intC)) (hS2 : SrcAt w a2 c2 (l2.flatMap intC)) (hl1 : l1.length = m1) (hl2 : l2.length = m2) (hle : m1 + m2 ≤ 100000) :
 Calls Try.prog 29 #[.slice (some ⟨g, 0, none⟩) 2 2] w fun e w' => ∃ a n c, e = .returned (.slice a n c) ∧ n = m1 + m2 ∧ SlAt 1 intC w' ⟨a, c, l1 ++ l2⟩ ∧ Below w.heap.size w w' ∧ NewRow 1 w.heap.size w' a n := by
 have HG := Lib.hid hg
 have HS1 := Lib.hid hS1
 have HS2 := Lib.hid hS2
 have HL := Lib.hid (And.intro hl1 hl2)
 have HLE := Lib.hid hle
 obtain ⟨i0, hi, hz0, hz1, hz2⟩ := info_parts info_int
 have HI := Lib.hid (And.intro hi (And.intro hz0 (And.intro hz1 hz2)))
 have x0 := blk_cell hg 0 _ rfl
 have x1 := blk_cell hg 1 _ rfl
 have e1 : wrap64 (m1 : Int) = m1 := by unfold wrap64; omega
 have e2 : wrap64 ((m1 : Int) + (m2 : Int)) = (m1 : Int) + (m2 : Int) := by unfold wrap64; omega
 have n1 : ¬ (m1 : Int) < 0 := by omega
 have n2 : ¬ (m1 : Int) + (m2 : Int) < 0 := by omega
 have p1 : (0 : Int) ≤ (m1 : Int) := by omega
 have p2 : (0 : Int) ≤ (m1 : Int) + (m2 : Int) := by omega
 clear hi hz0 hz1 hz2 hS1 hS2 hl1 hl2 hle hg
 go_enter Try.func29, Try.ntmps29
 go_wp2_with fail
 go_loopg [3, 5, 11] 2 (fun q s _ i wr => (q = 2 ∧ i = .int .i64 0 ∧ s = .int .i64 0 ∧ w = wr) ∨ (q = 1 ∧ i = .int .i64 1 ∧ s = .int .i64 (m1 : Int) ∧ w = wr) ∨ (q = 0 ∧ i = .int .i64 2 ∧ s = .int .i64 ((m1 : Int) + (m2 : Int)) ∧ w = wr))
 case atStart => exact .inl ⟨rfl, rfl, rfl, rfl⟩
 case round =>
  rcases hrel with ⟨rfl, rfl, rfl, rfl⟩ | ⟨rfl, rfl, rfl, rfl⟩ | ⟨rfl, rfl, rfl, rfl⟩
  ·go_wp2_with fail
   go_roundg 1
   case rel => exact .inr (.inl ⟨rfl, by go_num, by first | rfl | go_num | simp [e1], rfl⟩)
   case measure => omega
  ·go_wp2_with fail
   go_roundg 0
   case rel => exact .inr (.inr ⟨rfl, by go_num, by first | rfl | go_num | simp [e2], rfl⟩)
   case measure => omega
  ·go_wp2_with fail
   have hgr := grow_int (m1 + m2) HLE.out w
   rw [Int.natCast_add] at hgr
   refine hgr.mono ?_
   rintro e w1 ⟨v0, rfl, hO, hb⟩
   have HO := Lib.hid hO
   have HB := Lib.hid hb
   clear hgr hO hb x0 x1 n1 n2 p1 p2 e1 e2
   have x0 := blk_cell (blk_keep HB.out HG.out) 0 _ rfl
   have x1 := blk_cell (blk_keep HB.out HG.out) 1 _ rfl
   go_wp2_with fail
   clear x0 x1
   go_loopg [6, 8, 27] 2 (fun q v _ i wr => (q = 2 ∧ i = .int .i64 0 ∧ wr.ownsRow w.heap.size 3 1 v 0 [] ∧ Below w.heap.size w wr) ∨ (q = 1 ∧ i = .int .i64 1 ∧ wr.ownsRow w.heap.size 3 1 v m1 (l1.flatMap intC) ∧ Below w.heap.size w wr) ∨ (q = 0 ∧ i = .int .i64 2 ∧ wr.ownsRow w.heap.size 3 1 v (m1 + m2) ((l1 ++ l2).flatMap intC) ∧ Below w.heap.size w wr))
   case atStart => exact .inl ⟨rfl, rfl, HO.out, HB.out⟩
   case round =>
    clear HO HB
    rcases hrel with ⟨rfl, rfl, hO, hb⟩ | ⟨rfl, rfl, hO, hb⟩ | ⟨rfl, rfl, hO, hb⟩
    ·have HO := Lib.hid hO
     have HB := Lib.hid hb
     have HSS := Lib.hid (srcAt_below HS1.out hb)
     have x0 := blk_cell (blk_keep hb HG.out) 0 _ rfl
     have x1 := blk_cell (blk_keep hb HG.out) 1 _ rfl
     clear hO hb
     go_wp2_with (at_builtin; refine wpList_append_src rfl _ _ 53 rfl w.heap.size 3 i0 (.int .i64 0) 1 8 Try.underlying53 HI.out.1 HI.out.2.1 HI.out.2.2.1 HI.out.2.2.2 rfl (by decide) _ 0 [] rfl HO.out a1 m1 c1 (l1.flatMap intC) rfl (by rw [flat_len int_len, HL.out.1]) HSS.out (by have := HLE.out; unfold maxLen; omega) (by have := HLE.out; omega) HB.out.size ?_; intro v5 W5 hown5 hg5)
     have hB5 := HB.out.grown hg5 HB.out.size (fun k hk => (HO.out.lt _ hk).1)
     rw [List.nil_append, Nat.zero_add] at hown5
     go_roundg 1
     case rel => exact .inr (.inl ⟨rfl, by go_num, hown5, hB5⟩)
     case measure => omega
    ·have HO := Lib.hid hO
     have HB := Lib.hid hb
     have HSS := Lib.hid (srcAt_below HS2.out hb)
     have x0 := blk_cell (blk_keep hb HG.out) 0 _ rfl
     have x1 := blk_cell (blk_keep hb HG.out) 1 _ rfl
     clear hO hb
     go_wp2_with (at_builtin; refine wpList_append_src rfl _ _ 53 rfl w.heap.size 3 i0 (.int .i64 0) 1 8 Try.underlying53 HI.out.1 HI.out.2.1 HI.out.2.2.1 HI.out.2.2.2 rfl (by decide) _ m1 (l1.flatMap intC) rfl HO.out a2 m2 c2 (l2.flatMap intC) rfl (by rw [flat_len int_len, HL.out.2]) HSS.out (by have := HLE.out; unfold maxLen; omega) (by have := HLE.out; omega) HB.out.size ?_; intro v5 W5 hown5 hg5)
     have hB5 := HB.out.grown hg5 HB.out.size (fun k hk => (HO.out.lt _ hk).1)
     rw [← List.flatMap_append] at hown5
     go_roundg 0
     case rel => exact .inr (.inr ⟨rfl, by go_num, hown5, hB5⟩)
     case measure => omega
    ·obtain ⟨a5, c5, rfl, hS5, hN5⟩ := own_sl2 int_len (by rw [List.length_append, HL.out.1, HL.out.2]) hO
     have HS5 := Lib.hid hS5
     have HN5 := Lib.hid hN5
     have HB := Lib.hid hb
     clear hO hb hS5 hN5
     go_wp2_with fail
     go_ret
     exact ⟨a5, _, c5, rfl, rfl, HS5.out, HB.out, HN5.out⟩
theorem concat_int (g : Nat) (t : TypeId) (fr : Nat × Nat) (a1 a2 : Option Addr) (m1 c1 m2 c2 : Nat) (l1 l2 : List Int) (w : World) (hg : w.heap[g]? = some (.cells #[.slice a1 m1 c1, .slice a2 m2 c2] t fr)) (hS1 : SrcAt w a1 c1 (l1.flatMap intC)) (hS2 : SrcAt w a2 c2 (l2.flatMap intC)) (hl1 : l1.length = m1) (hl2 : l2.length = m2) (hle : m1 + m2 ≤ 100000) :
 Calls Try.prog 29 #[.slice (some ⟨g, 0, none⟩) 2 2] w fun e w' => ∃ a n c, e = .returned (.slice a n c) ∧ n = m1 + m2 ∧ SlAt 1 intC w' ⟨a, c, l1 ++ l2⟩ ∧ Below w.heap.size w w' :=
 (concat_int2 g t fr a1 a2 m1 c1 m2 c2 l1 l2 w hg hS1 hS2 hl1 hl2 hle).mono (fun _ _ ⟨a, n, c, h1, h2, h3, h4, _⟩ => ⟨a, n, c, h1, h2, h3, h4⟩)

set_option maxRecDepth 100000 in
set_option maxHeartbeats 4000000 in
theorem concat_nd2 (g : Nat) (t : TypeId) (fr : Nat × Nat) (a1 a2 : Option Addr) (m1 c1 m2 c2 : Nat) (l1 l2 : List (Int × Bool)) (w : World) (hg : w.heap[g]? = some (.cells #[.slice a1 m1 c1, .slice a2 m2 c2] t fr)) (hS1 : SrcAt w a1 c1 (l1.flatMap ndC)) (hS2 : SrcAt w a2 c2 (l2.flatMap ndC)) (hl1 : l1.length = m1) (hl2 : l2.length = m2) (hle : m1 + m2 ≤ 100000) :
 Calls Try.prog 30 #[.slice (some ⟨g, 0, none⟩) 2 2] w fun e w' => ∃ a n c, e = .returned (.slice a n c) ∧ n = m1 + m2 ∧ SlAt 2 ndC w' ⟨a, c, l1 ++ l2⟩ ∧ Below w.heap.size w w' ∧ NewRow 2 w.heap.size w' a n := by
 have HG := Lib.hid hg
 have HS1 := Lib.hid hS1
 have HS2 := Lib.hid hS2
 have HL := Lib.hid (And.intro hl1 hl2)
 have HLE := Lib.hid hle
 obtain ⟨i0, hi, hz0, hz1, hz2⟩ := info_parts info_nd
 have HI := Lib.hid (And.intro hi (And.intro hz0 (And.intro hz1 hz2)))
 have x0 := blk_cell hg 0 _ rfl
 have x1 := blk_cell hg 1 _ rfl
 have e1 : wrap64 (m1 : Int) = m1 := by unfold wrap64; omega
 have e2 : wrap64 ((m1 : Int) + (m2 : Int)) = (m1 : Int) + (m2 : Int) := by unfold wrap64; omega
 have n1 : ¬ (m1 : Int) < 0 := by omega
 have n2 : ¬ (m1 : Int) + (m2 : Int) < 0 := by omega
 have p1 : (0 : Int) ≤ (m1 : Int) := by omega
 have p2 : (0 : Int) ≤ (m1 : Int) + (m2 : Int) := by omega
 clear hi hz0 hz1 hz2 hS1 hS2 hl1 hl2 hle hg
 go_enter Try.func30, Try.ntmps30
 go_wp2_with fail
 go_loopg [3, 5, 11] 2 (fun q s _ i wr => (q = 2 ∧ i = .int .i64 0 ∧ s = .int .i64 0 ∧ w = wr) ∨ (q = 1 ∧ i = .int .i64 1 ∧ s = .int .i64 (m1 : Int) ∧ w = wr) ∨ (q = 0 ∧ i = .int .i64 2 ∧ s = .int .i64 ((m1 : Int) + (m2 : Int)) ∧ w = wr))
 case atStart => exact .inl ⟨rfl, rfl, rfl, rfl⟩
 case round =>
  rcases hrel with ⟨rfl, rfl, rfl, rfl⟩ | ⟨rfl, rfl, rfl, rfl⟩ | ⟨rfl, rfl, rfl, rfl⟩
  ·go_wp2_with fail
   go_roundg 1
   case rel => exact .inr (.inl ⟨rfl, by go_num, by first | rfl | go_num | simp [e1], rfl⟩)
   case measure => omega
  ·go_wp2_with fail
   go_roundg 0
   case rel => exact .inr (.inr ⟨rfl, by go_num, by first | rfl | go_num | simp [e2], rfl⟩)
   case measure => omega
  ·go_wp2_with fail
   have hgr := grow_nd (m1 + m2) HLE.out w
   rw [Int.natCast_add] at hgr
   refine hgr.mono ?_
   rintro e w1 ⟨v0, rfl, hO, hb⟩
   have HO := Lib.hid hO
   have HB := Lib.hid hb
   clear hgr hO hb x0 x1 n1 n2 p1 p2 e1 e2
   have x0 := blk_cell (blk_keep HB.out HG.out) 0 _ rfl
   have x1 := blk_cell (blk_keep HB.out HG.out) 1 _ rfl
   go_wp2_with fail
   clear x0 x1
   go_loopg [6, 8, 27] 2 (fun q v _ i wr => (q = 2 ∧ i = .int .i64 0 ∧ wr.ownsRow w.heap.size 55 2 v 0 [] ∧ Below w.heap.size w wr) ∨ (q = 1 ∧ i = .int .i64 1 ∧ wr.ownsRow w.heap.size 55 2 v m1 (l1.flatMap ndC) ∧ Below w.heap.size w wr) ∨ (q = 0 ∧ i = .int .i64 2 ∧ wr.ownsRow w.heap.size 55 2 v (m1 + m2) ((l1 ++ l2).flatMap ndC) ∧ Below w.heap.size w wr))
   case atStart => exact .inl ⟨rfl, rfl, HO.out, HB.out⟩
   case round =>
    clear HO HB
    rcases hrel with ⟨rfl, rfl, hO, hb⟩ | ⟨rfl, rfl, hO, hb⟩ | ⟨rfl, rfl, hO, hb⟩
    ·have HO := Lib.hid hO
     have HB := Lib.hid hb
     have HSS := Lib.hid (srcAt_below HS1.out hb)
     have x0 := blk_cell (blk_keep hb HG.out) 0 _ rfl
     have x1 := blk_cell (blk_keep hb HG.out) 1 _ rfl
     clear hO hb
     go_wp2_with (at_builtin; refine wpList_append_src rfl _ _ 56 rfl w.heap.size 55 i0 (.agg #[.int .i64 0, .bool false]) 2 16 Try.underlying56 HI.out.1 HI.out.2.1 HI.out.2.2.1 HI.out.2.2.2 rfl (by decide) _ 0 [] rfl HO.out a1 m1 c1 (l1.flatMap ndC) rfl (by rw [flat_len nd_len, HL.out.1]) HSS.out (by have := HLE.out; unfold maxLen; omega) (by have := HLE.out; omega) HB.out.size ?_; intro v5 W5 hown5 hg5)
     have hB5 := HB.out.grown hg5 HB.out.size (fun k hk => (HO.out.lt _ hk).1)
     rw [List.nil_append, Nat.zero_add] at hown5
     go_roundg 1
     case rel => exact .inr (.inl ⟨rfl, by go_num, hown5, hB5⟩)
     case measure => omega
    ·have HO := Lib.hid hO
     have HB := Lib.hid hb
     have HSS := Lib.hid (srcAt_below HS2.out hb)
     have x0 := blk_cell (blk_keep hb HG.out) 0 _ rfl
     have x1 := blk_cell (blk_keep hb HG.out) 1 _ rfl
     clear hO hb
     go_wp2_with (at_builtin; refine wpList_append_src rfl _ _ 56 rfl w.heap.size 55 i0 (.agg #[.int .i64 0, .bool false]) 2 16 Try.underlying56 HI.out.1 HI.out.2.1 HI.out.2.2.1 HI.out.2.2.2 rfl (by decide) _ m1 (l1.flatMap ndC) rfl HO.out a2 m2 c2 (l2.flatMap ndC) rfl (by rw [flat_len nd_len, HL.out.2]) HSS.out (by have := HLE.out; unfold maxLen; omega) (by have := HLE.out; omega) HB.out.size ?_; intro v5 W5 hown5 hg5)
     have hB5 := HB.out.grown hg5 HB.out.size (fun k hk => (HO.out.lt _ hk).1)
     rw [← List.flatMap_append] at hown5
     go_roundg 0
     case rel => exact .inr (.inr ⟨rfl, by go_num, hown5, hB5⟩)
     case measure => omega
    ·obtain ⟨a5, c5, rfl, hS5, hN5⟩ := own_sl2 nd_len (by rw [List.length_append, HL.out.1, HL.out.2]) hO
     have HS5 := Lib.hid hS5
     have HN5 := Lib.hid hN5
     have HB := Lib.hid hb
     clear hO hb hS5 hN5
     go_wp2_with fail
     go_ret
     exact ⟨a5, _, c5, rfl, rfl, HS5.out, HB.out, HN5.out⟩
theorem concat_nd (g : Nat) (t : TypeId) (fr : Nat × Nat) (a1 a2 : Option Addr) (m1 c1 m2 c2 : Nat) (l1 l2 : List (Int × Bool)) (w : World) (hg : w.heap[g]? = some (.cells #[.slice a1 m1 c1, .slice a2 m2 c2] t fr)) (hS1 : SrcAt w a1 c1 (l1.flatMap ndC)) (hS2 : SrcAt w a2 c2 (l2.flatMap ndC)) (hl1 : l1.length = m1) (hl2 : l2.length = m2) (hle : m1 + m2 ≤ 100000) :
 Calls Try.prog 30 #[.slice (some ⟨g, 0, none⟩) 2 2] w fun e w' => ∃ a n c, e = .returned (.slice a n c) ∧ n = m1 + m2 ∧ SlAt 2 ndC w' ⟨a, c, l1 ++ l2⟩ ∧ Below w.heap.size w w' :=
 (concat_nd2 g t fr a1 a2 m1 c1 m2 c2 l1 l2 w hg hS1 hS2 hl1 hl2 hle).mono (fun _ _ ⟨a, n, c, h1, h2, h3, h4, _⟩ => ⟨a, n, c, h1, h2, h3, h4⟩)
end Go.Proofs.Ytpohoannggdbjaa
namespace Go.Proofs.Ytpohoannggdbjaa
open Go.RowKit
set_option maxRecDepth 100000

set_option maxRecDepth 100000 in
set_option maxHeartbeats 2000000 in
theorem track_own (r : Rt) (w : World) (hr : RtAt w r) (hlen : r.pa.l.length + r.ov.l.length ≤ 100000) :
 Calls Try.prog 14 #[.agg #[.string r.nm, .int .i64 r.sg, r.pa.v, r.po.v, r.ov.v, r.fl.v]] w fun e w' => ∃ a n c, e = .returned (.slice a n c) ∧ n = r.pa.l.length + r.ov.l.length ∧ SlAt 1 intC w' ⟨a, c, r.pa.l ++ r.ov.l⟩ ∧ Below w.heap.size w w' ∧ NewRow 1 w.heap.size w' a n := by
 obtain ⟨nm, sg, ⟨pa, pc, pl⟩, ⟨oa, oc, ol⟩, ⟨va, vc, vl⟩, ⟨fa, fc, fl⟩⟩ := r
 have hS1 := src_sl int_len int_one hr.pa
 have hS2 := src_sl int_len int_one hr.ov
 dsimp only at hS1 hS2 hlen ⊢
 obtain ⟨m1, hm1⟩ : ∃ m, pl.length = m := ⟨_, rfl⟩
 obtain ⟨m2, hm2⟩ : ∃ m, ol.length = m := ⟨_, rfl⟩
 obtain ⟨m3, hm3⟩ : ∃ m, vl.length = m := ⟨_, rfl⟩
 obtain ⟨m4, hm4⟩ : ∃ m, fl.length = m := ⟨_, rfl⟩
 rw [slv2 hm1, slv2 hm2, slv2 hm3, slv2 hm4]
 rw [hm1, hm3] at hlen ⊢
 have HM := Lib.hid (And.intro hm1 (And.intro hm2 (And.intro hm3 hm4)))
 have HC : Hid (∀ (g : Nat) (W : World), W.heap[g]? = some (.cells #[.slice pa m1 pc, .slice va m3 vc] 53) → Below w.heap.size w W → Calls Try.prog 29 #[.slice (some ⟨g, 0, none⟩) 2 2] W fun e w' => ∃ a n c, e = .returned (.slice a n c) ∧ n = m1 + m3 ∧ SlAt 1 intC w' ⟨a, c, pl ++ vl⟩ ∧ Below w.heap.size w w' ∧ NewRow 1 w.heap.size w' a n) := Lib.hid (fun g W hg hb => (concat_int2 g 53 (0, 0) pa va m1 pc m3 vc pl vl W hg (srcAt_below hS1 hb) (srcAt_below hS2 hb) hm1 hm3 hlen).mono (fun e w9 ⟨a, n, c, h1, h2, h3, h4, h5⟩ => ⟨a, n, c, h1, h2, h3, below_on hb h4, h5.mono hb.size⟩))
 clear hS1 hS2 hm1 hm2 hm3 hm4 hlen hr
 go_enter Try.func14, Try.ntmps14
 go_wp2_with fail
 refine (HC.out _ _ (alloc2' w _ _).2 (below2' w _ _)).mono ?_
 rintro e w9 ⟨a, n, c, rfl, hn, hS, hb, hN⟩
 have HN := Lib.hid hn
 have HS := Lib.hid hS
 have HNR := Lib.hid hN
 have HB := Lib.hid hb
 clear hn hS hb hN
 go_wp2_with fail
 go_ret
 exact ⟨a, n, c, rfl, HN.out, HS.out, HB.out, HNR.out⟩
theorem track_is (r : Rt) (w : World) (hr : RtAt w r) (hlen : r.pa.l.length + r.ov.l.length ≤ 100000) :
 Calls Try.prog 14 #[.agg #[.string r.nm, .int .i64 r.sg, r.pa.v, r.po.v, r.ov.v, r.fl.v]] w fun e w' => ∃ a n c, e = .returned (.slice a n c) ∧ n = r.pa.l.length + r.ov.l.length ∧ SlAt 1 intC w' ⟨a, c, r.pa.l ++ r.ov.l⟩ ∧ Below w.heap.size w w' :=
 (track_own r w hr hlen).mono (fun _ _ ⟨a, n, c, h1, h2, h3, h4, _⟩ => ⟨a, n, c, h1, h2, h3, h4⟩)

set_option maxRecDepth 100000 in
set_option maxHeartbeats 2000000 in
theorem needs_own (r : Rt) (w : World) (hr : RtAt w r) (hlen : r.po.l.length + r.fl.l.length ≤ 100000) :
 Calls Try.prog 15 #[.agg #[.string r.nm, .int .i64 r.sg, r.pa.v, r.po.v, r.ov.v, r.fl.v]] w fun e w' => ∃ a n c, e = .returned (.slice a n c) ∧ n = r.po.l.length + r.fl.l.length ∧ SlAt 2 ndC w' ⟨a, c, r.po.l ++ r.fl.l⟩ ∧ Below w.heap.size w w' ∧ NewRow 2 w.heap.size w' a n := by
 obtain ⟨nm, sg, ⟨pa, pc, pl⟩, ⟨oa, oc, ol⟩, ⟨va, vc, vl⟩, ⟨fa, fc, fl⟩⟩ := r
 have hS1 := src_sl nd_len nd_one hr.po
 have hS2 := src_sl nd_len nd_one hr.fl
 dsimp only at hS1 hS2 hlen ⊢
 obtain ⟨m1, hm1⟩ : ∃ m, pl.length = m := ⟨_, rfl⟩
 obtain ⟨m2, hm2⟩ : ∃ m, ol.length = m := ⟨_, rfl⟩
 obtain ⟨m3, hm3⟩ : ∃ m, vl.length = m := ⟨_, rfl⟩
 obtain ⟨m4, hm4⟩ : ∃ m, fl.length = m := ⟨_, rfl⟩
 rw [slv2 hm1, slv2 hm2, slv2 hm3, slv2 hm4]
 rw [hm2, hm4] at hlen ⊢
 have HM := Lib.hid (And.intro hm1 (And.intro hm2 (And.intro hm3 hm4)))
 have HC : Hid (∀ (g : Nat) (W : World), W.heap[g]? = some (.cells #[.slice oa m2 oc, .slice fa m4 fc] 56) → Below w.heap.size w W → Calls Try.prog 30 #[.slice (some ⟨g, 0, none⟩) 2 2] W fun e w' => ∃ a n c, e = .returned (.slice a n c) ∧ n = m2 + m4 ∧ SlAt 2 ndC w' ⟨a, c, ol ++ fl⟩ ∧ Below w.heap.size w w' ∧ NewRow 2 w.heap.size w' a n) := Lib.hid (fun g W hg hb => (concat_nd2 g 56 (0, 0) oa fa m2 oc m4 fc ol fl W hg (srcAt_below hS1 hb) (srcAt_below hS2 hb) hm2 hm4 hlen).mono (fun e w9 ⟨a, n, c, h1, h2, h3, h4, h5⟩ => ⟨a, n, c, h1, h2, h3, below_on hb h4, h5.mono hb.size⟩))
 clear hS1 hS2 hm1 hm2 hm3 hm4 hlen hr
 go_enter Try.func15, Try.ntmps15
 go_wp2_with fail
 refine (HC.out _ _ (alloc2' w _ _).2 (below2' w _ _)).mono ?_
 rintro e w9 ⟨a, n, c, rfl, hn, hS, hb, hN⟩
 have HN := Lib.hid hn
 have HS := Lib.hid hS
 have HNR := Lib.hid hN
 have HB := Lib.hid hb
 clear hn hS hb hN
 go_wp2_with fail
 go_ret
 exact ⟨a, n, c, rfl, HN.out, HS.out, HB.out, HNR.out⟩
theorem needs_is (r : Rt) (w : World) (hr : RtAt w r) (hlen : r.po.l.length + r.fl.l.length ≤ 100000) :
 Calls Try.prog 15 #[.agg #[.string r.nm, .int .i64 r.sg, r.pa.v, r.po.v, r.ov.v, r.fl.v]] w fun e w' => ∃ a n c, e = .returned (.slice a n c) ∧ n = r.po.l.length + r.fl.l.length ∧ SlAt 2 ndC w' ⟨a, c, r.po.l ++ r.fl.l⟩ ∧ Below w.heap.size w w' :=
 (needs_own r w hr hlen).mono (fun _ _ ⟨a, n, c, h1, h2, h3, h4, _⟩ => ⟨a, n, c, h1, h2, h3, h4⟩)
end Go.Proofs.Ytpohoannggdbjaa
namespace Go.Proofs.Ytpohoannggdbjaa
open Go.RowKit
set_option maxRecDepth 100000
theorem has1_is (gp : Nat) (pt : Int) (t : TypeId) (fr : Nat × Nat) (n : Int × Bool) (w : World) (h : w.heap[gp]? = some (.cells #[.int .i64 pt] t fr)) :
 Calls Try.prog 64 #[.agg #[.int .i64 n.1, .bool n.2], .pointer (some ⟨gp, 0, none⟩)] w fun e w' => e = .returned (.bool (decide (n.1 = pt))) ∧ Below w.heap.size w w' := by
 have c0 := blk_cell h 0 _ rfl
 have hlt := blk_lt h
 clear h
 by_cases hp : n.1 = pt
 ·have q1 : (n.1 == pt) = true := by simpa using hp
  have HP := Lib.hid hp
  clear hp
  go_enter Try.func64, Try.ntmps64
  go_wp2_with fail
  go_ret
  refine ⟨?_, below1 _ _⟩
  rw [decide_eq_true HP.out]
  first | rfl | (show Ending.returned (.bool (n.1 == pt)) = _; rw [q1]) | (show Ending.returned (.bool (decide (n.1 = pt))) = _; rw [decide_eq_true HP.out])
 ·have q1 : (n.1 == pt) = false := by simpa using hp
  have HP := Lib.hid hp
  clear hp
  go_enter Try.func64, Try.ntmps64
  go_wp2_with fail
  go_ret
  refine ⟨?_, below1 _ _⟩
  rw [decide_eq_false HP.out]
  first | rfl | (show Ending.returned (.bool (n.1 == pt)) = _; rw [q1]) | (show Ending.returned (.bool (decide (n.1 = pt))) = _; rw [decide_eq_false HP.out])
/-- the first place, from place k on, of which p holds; -1: there is none -/
def ixF {α : Type} (p : α → Bool) : Nat → List α → Int
 | _, [] => -1
 | k, y :: t => if p y then (k : Int) else ixF p (k + 1) t
theorem ixF_iff {α : Type} (p : α → Bool) : ∀ (l : List α) (k : Nat), (0 ≤ ixF p k l ∧ l.any p = true) ∨ (ixF p k l < 0 ∧ l.any p = false) := by
 intro l
 induction l with
 | nil => intro k; exact .inr ⟨by unfold ixF; decide, rfl⟩
 | cons y l ih =>
   intro k
   cases h : p y with
   | true => exact .inl ⟨by unfold ixF; rw [if_pos h]; omega, by simp [h]⟩
   | false =>
     have e1 : ixF p k (y :: l) = ixF p (k + 1) l := by
      show (if p y then (k : Int) else ixF p (k + 1) l) = _
      rw [if_neg (by rw [h]; decide)]
     have e2 : (y :: l).any p = l.any p := by simp [h]
     rw [e1, e2]
     exact ih (k + 1)
theorem ixF_drop {α : Type} {p : α → Bool} {l : List α} {y : α} {k : Nat} (h : l[k]? = some y) : ixF p k (l.drop k) = if p y then (k : Int) else ixF p (k + 1) (l.drop (k + 1)) := by
 have hk : k < l.length := (List.getElem?_eq_some_iff.1 h).1
 rw [List.drop_eq_getElem_cons hk, (List.getElem?_eq_some_iff.1 h).2]
 rfl
theorem ixF_end {α : Type} {p : α → Bool} {l : List α} {k : Nat} (h : l.length = k) : ixF p k (l.drop k) = -1 := by rw [List.drop_eq_nil_of_le (by omega)]; rfl
attribute [local irreducible] ixF
set_option maxHeartbeats 1000000 in
theorem ixf_has (gp : Nat) (p : Int × Bool → Bool) (x : Option Addr) (m c : Nat) (l : List (Int × Bool)) (w : World) (hn : l.length = m) (hm : m ≤ 9223372036854775807) (hl : RowAt 2 ndC w x l)
 (hp : ∀ W, Below w.heap.size w W → ∀ n, Calls Try.prog 64 #[.agg #[.int .i64 n.1, .bool n.2], .pointer (some ⟨gp, 0, none⟩)] W fun e w' => e = .returned (.bool (p n)) ∧ Below W.heap.size W w') :
 Calls Try.prog 59 #[.slice x m c, .func (.func 64) #[] #[.pointer (some ⟨gp, 0, none⟩)]] w fun e w' => e = .returned (.int .i64 (ixF p 0 l)) ∧ Below w.heap.size w w' := by
 have HN := Lib.hid hn
 have HP := Lib.hid hp
 have HR := Lib.hid hl
 clear hn hp hl
 go_enter Try.func59, Try.ntmps59
 go_wp2_with fail
 go_loopg [5, 8] m (fun g _ i wr => ∃ k : Nat, k + g = m ∧ i = .int .i64 (k : Int) ∧ ixF p k (l.drop k) = ixF p 0 l ∧ Below w.heap.size w wr)
 case atStart => exact ⟨0, by omega, rfl, rfl, Below.refl _ _⟩
 case round =>
  obtain ⟨k, hk, rfl, hb, hbw⟩ := hrel
  have HB := Lib.hid hb
  have HBW := Lib.hid hbw
  clear hb hbw
  by_cases hlt : k < m
  ·obtain ⟨y, hy⟩ : ∃ y, l[k]? = some y := ⟨_, List.getElem?_eq_getElem (by rw [HN.out]; exact hlt)⟩
   rcases HR.out.below HBW.out with hnil | ⟨b, off, rfl, hc⟩
   ·rw [hnil] at hy; simp at hy
   have z0 := hc k _ hy 0 _ rfl
   have z1 := hc k _ hy 1 _ rfl
   rw [Nat.add_zero] at z0
   have hd := ixF_drop (p := p) hy
   have d1 : (0 : Int) ≤ k := by omega
   have d2 : (k : Int) < m := by omega
   have e1 : wrap64 ((k : Int) + 1) = (k : Int) + 1 := by unfold wrap64; omega
   have HK := Lib.hid hk
   have hcall := HP.out wr HBW.out y
   obtain ⟨D, hD⟩ : ∃ D, p y = D := ⟨_, rfl⟩
   rw [hD] at hcall hd
   have HC := Lib.hid hcall
   clear hc hy hk hcall hD
   cases D with
   | true =>
     have HF : Hid (ixF p 0 l = k) := Lib.hid (HB.out.symm.trans (by rw [hd, if_pos rfl]))
     clear hd
     go_wp2_with fail
     refine HC.out.mono ?_
     rintro e w5 ⟨rfl, hb5⟩
     have HB5 := Lib.hid (below_on HBW.out hb5)
     clear hb5
     go_wp2_with fail
     go_ret
     exact ⟨by rw [HF.out]; rfl, HB5.out⟩
   | false =>
     have HT : Hid (ixF p (k + 1) (l.drop (k + 1)) = ixF p 0 l) := Lib.hid (Eq.trans (by rw [hd, if_neg (by decide)]) HB.out)
     clear hd
     go_wp2_with fail
     refine HC.out.mono ?_
     rintro e w5 ⟨rfl, hb5⟩
     have HB5 := Lib.hid (below_on HBW.out hb5)
     clear hb5
     go_wp2_with fail
     go_roundg (m - (k + 1))
     case rel => exact ⟨k + 1, by have := HK.out; omega, by go_num, HT.out, HB5.out⟩
     case measure => have := HK.out; omega
  ·have hkm : m = k := by omega
   subst hkm
   have HF : Hid (ixF p 0 l = -1) := Lib.hid (HB.out.symm.trans (ixF_end HN.out))
   go_wp2_with fail
   go_ret
   exact ⟨by rw [HF.out]; rfl, HBW.out⟩
end Go.Proofs.Ytpohoannggdbjaa
namespace Go.Proofs.Ytpohoannggdbjaa
open Go.RowKit
set_option maxRecDepth 100000
attribute [local irreducible] ixF
theorem containsf_has (b : Bool) (gp : Nat) (p : Int × Bool → Bool) (x : Option Addr) (m c : Nat) (l : List (Int × Bool)) (w : World) (hb : l.any p = b) (hn : l.length = m) (hm : m ≤ 9223372036854775807) (hl : RowAt 2 ndC w x l)
 (hp : ∀ W, Below w.heap.size w W → ∀ n, Calls Try.prog 64 #[.agg #[.int .i64 n.1, .bool n.2], .pointer (some ⟨gp, 0, none⟩)] W fun e w' => e = .returned (.bool (p n)) ∧ Below W.heap.size W w') :
 Calls Try.prog 39 #[.slice x m c, .func (.func 64) #[] #[.pointer (some ⟨gp, 0, none⟩)]] w fun e w' => e = .returned (.bool b) ∧ Below w.heap.size w w' := by
 have hc := ixf_has gp p x m c l w hn hm hl hp
 have hi := ixF_iff p l 0
 obtain ⟨z, hz⟩ : ∃ z, ixF p 0 l = z := ⟨_, rfl⟩
 rw [hz, hb] at hi
 rw [hz] at hc
 have HC := Lib.hid hc
 clear hz hb hn hm hl hp hc
 rcases hi with ⟨h1, rfl⟩ | ⟨h1, rfl⟩
 ·go_enter Try.func39, Try.ntmps39
  go_wp2_with fail
  refine HC.out.mono ?_
  rintro e w1 ⟨rfl, hb1⟩
  have HB := Lib.hid hb1
  clear hb1
  go_wp2_with fail
  go_ret
  exact ⟨rfl, HB.out⟩
 ·have h2 : ¬ 0 ≤ z := by omega
  go_enter Try.func39, Try.ntmps39
  go_wp2_with fail
  refine HC.out.mono ?_
  rintro e w1 ⟨rfl, hb1⟩
  have HB := Lib.hid hb1
  clear hb1
  go_wp2_with fail
  go_ret
  exact ⟨by show Ending.returned (.bool (decide (0 ≤ z))) = _; rw [decide_eq_false (by omega)], HB.out⟩
theorem has_is (b : Bool) (pt : Int) (x : Option Addr) (m c : Nat) (l : List (Int × Bool)) (w : World) (hb : (l.any fun n => decide (n.1 = pt)) = b) (hn : l.length = m) (hm : m ≤ 9223372036854775807) (hl : RowAt 2 ndC w x l) :
 Calls Try.prog 52 #[.slice x m c, .int .i64 pt] w fun e w' => e = .returned (.bool b) ∧ Below w.heap.size w w' := by
 have hB1 := below1 w (.cells #[.int .i64 pt] 3)
 have hg := alloc1 w (.cells #[.int .i64 pt] 3) (Below.refl _ _)
 have HC := Lib.hid (containsf_has b w.heap.size (fun n => decide (n.1 = pt)) x m c l (w.alloc (.cells #[.int .i64 pt] 3)) hb hn hm (hl.below hB1) (fun W hW n => has1_is w.heap.size pt 3 (0, 0) n W (blk_keep hW hg)))
 have HB := Lib.hid hB1
 clear hb hn hm hl hB1 hg
 go_enter Try.func52, Try.ntmps52
 go_wp2_with fail
 refine HC.out.mono ?_
 rintro e w1 ⟨rfl, hb1⟩
 have HB1 := Lib.hid (below_on HB.out hb1)
 clear hb1
 go_wp2_with fail
 go_ret
 exact ⟨rfl, HB1.out⟩
end Go.Proofs.Ytpohoannggdbjaa
namespace Go.Proofs.Ytpohoannggdbjaa
open Go.RowKit
set_option maxRecDepth 100000
attribute [local irreducible] ixF
theorem key_int (y : Int) (w : World) : Calls Try.prog 48 #[.int .i64 y] w fun e w' => e = .returned (.int .i64 y) ∧ w = w' := by
 go_enter Try.func48, Try.ntmps48
 go_wp2_with fail
 go_ret
 exact ⟨rfl, rfl⟩
theorem twice1_is (b : Bool) (gk gx : Nat) (x y : Int) (tk tx : TypeId) (f1 f2 : Nat × Nat) (w : World) (hb : decide (y = x) = b) (hk : w.heap[gk]? = some (.cells #[.func (.func 48) #[] #[]] tk f1)) (hx : w.heap[gx]? = some (.cells #[.int .i64 x] tx f2)) :
 Calls Try.prog 61 #[.int .i64 y, .pointer (some ⟨gk, 0, none⟩), .pointer (some ⟨gx, 0, none⟩)] w fun e w' => e = .returned (.bool b) ∧ Below w.heap.size w w' := by
 have HK := Lib.hid hk
 have HX := Lib.hid hx
 have hbe : (x == y) = b := by
  rw [← hb]
  by_cases h : y = x
  ·subst h; simp
  ·rw [decide_eq_false h]; simpa using fun q => h q.symm
 clear hk hx hb
 have k1 : ∀ w', Below w.heap.size w w' → Calls Try.prog 48 #[.int .i64 x] w' fun e w'' => e = .returned (.int .i64 x) ∧ Below w.heap.size w w'' :=
  fun w' hw' => (key_int x w').mono (fun e w9 ⟨h1, h2⟩ => ⟨h1, h2 ▸ hw'⟩)
 have k2 : ∀ w', Below w.heap.size w w' → Calls Try.prog 48 #[.int .i64 y] w' fun e w'' => e = .returned (.int .i64 y) ∧ Below w.heap.size w w'' :=
  fun w' hw' => (key_int y w').mono (fun e w9 ⟨h1, h2⟩ => ⟨h1, h2 ▸ hw'⟩)
 go_enter Try.func61, Try.ntmps61
 go_wp2_with fail
 refine wp_region_calm (by kernel_rfl) (by kernel_rfl) ?_
 repeat
  (with_reducible apply wpQuiet_step
   intro K hK
   go_simp
   first
    | (refine hK _ ?_; clear hK K)
    | (apply Exists.intro
       refine ⟨fun w' hw' => ?_, hK _ ?_⟩
       ·
        (first
         | with_reducible exact k1 _ hw'
         | with_reducible exact k2 _ hw'
         | (have e0 := blk_cell (blk_keep hw' HK.out) 0 _ rfl
            have e1 := blk_cell (blk_keep hw' HX.out) 0 _ rfl
            go_simp
            first | done | with_reducible exact rfl | with_reducible exact ⟨rfl, rfl⟩ | with_reducible exact k1 _ hw' | with_reducible exact k2 _ hw'))
       clear hK K))
 refine wpQuiet_nil ?_
 intro w7 hw7
 go_wp2_with fail
 go_ret
 exact ⟨rfl, hw7⟩
end Go.Proofs.Ytpohoannggdbjaa
namespace Go.Proofs.Ytpohoannggdbjaa
open Go.RowKit
set_option maxRecDepth 100000
attribute [local irreducible] ixF hasI
set_option maxHeartbeats 1000000 in
theorem ixf_tw (gk gx : Nat) (p : Int → Bool) (x : Option Addr) (m c : Nat) (l : List Int) (w : World) (hn : l.length = m) (hm : m ≤ 9223372036854775807) (hl : RowAt 1 intC w x l)
 (hp : ∀ W, Below w.heap.size w W → ∀ n, Calls Try.prog 61 #[.int .i64 n, .pointer (some ⟨gk, 0, none⟩), .pointer (some ⟨gx, 0, none⟩)] W fun e w' => e = .returned (.bool (p n)) ∧ Below W.heap.size W w') :
 Calls Try.prog 67 #[.slice x m c, .func (.func 61) #[] #[.pointer (some ⟨gk, 0, none⟩), .pointer (some ⟨gx, 0, none⟩)]] w fun e w' => e = .returned (.int .i64 (ixF p 0 l)) ∧ Below w.heap.size w w' := by
 have HN := Lib.hid hn
 have HP := Lib.hid hp
 have HR := Lib.hid hl
 clear hn hp hl
 go_enter Try.func67, Try.ntmps67
 go_wp2_with fail
 go_loopg [5, 8] m (fun g _ i wr => ∃ k : Nat, k + g = m ∧ i = .int .i64 (k : Int) ∧ ixF p k (l.drop k) = ixF p 0 l ∧ Below w.heap.size w wr)
 case atStart => exact ⟨0, by omega, rfl, rfl, Below.refl _ _⟩
 case round =>
  obtain ⟨k, hk, rfl, hb, hbw⟩ := hrel
  have HB := Lib.hid hb
  have HBW := Lib.hid hbw
  clear hb hbw
  by_cases hlt : k < m
  ·obtain ⟨y, hy⟩ : ∃ y, l[k]? = some y := ⟨_, List.getElem?_eq_getElem (by rw [HN.out]; exact hlt)⟩
   rcases HR.out.below HBW.out with hnil | ⟨b, off, rfl, hc⟩
   ·rw [hnil] at hy; simp at hy
   have z0 := hc k _ hy 0 _ rfl
   rw [Nat.add_zero, Nat.mul_one] at z0
   have hd := ixF_drop (p := p) hy
   have d1 : (0 : Int) ≤ k := by omega
   have d2 : (k : Int) < m := by omega
   have e1 : wrap64 ((k : Int) + 1) = (k : Int) + 1 := by unfold wrap64; omega
   have HK := Lib.hid hk
   have hcall := HP.out wr HBW.out y
   obtain ⟨D, hD⟩ : ∃ D, p y = D := ⟨_, rfl⟩
   rw [hD] at hcall hd
   have HC := Lib.hid hcall
   clear hc hy hk hcall hD
   cases D with
   | true =>
     have HF : Hid (ixF p 0 l = k) := Lib.hid (HB.out.symm.trans (by rw [hd, if_pos rfl]))
     clear hd
     go_wp2_with fail
     refine HC.out.mono ?_
     rintro e w5 ⟨rfl, hb5⟩
     have HB5 := Lib.hid (below_on HBW.out hb5)
     clear hb5
     go_wp2_with fail
     go_ret
     exact ⟨by rw [HF.out]; rfl, HB5.out⟩
   | false =>
     have HT : Hid (ixF p (k + 1) (l.drop (k + 1)) = ixF p 0 l) := Lib.hid (Eq.trans (by rw [hd, if_neg (by decide)]) HB.out)
     clear hd
     go_wp2_with fail
     refine HC.out.mono ?_
     rintro e w5 ⟨rfl, hb5⟩
     have HB5 := Lib.hid (below_on HBW.out hb5)
     clear hb5
     go_wp2_with fail
     go_roundg (m - (k + 1))
     case rel => exact ⟨k + 1, by have := HK.out; omega, by go_num, HT.out, HB5.out⟩
     case measure => have := HK.out; omega
  ·have hkm : m = k := by omega
   subst hkm
   have HF : Hid (ixF p 0 l = -1) := Lib.hid (HB.out.symm.trans (ixF_end HN.out))
   go_wp2_with fail
   go_ret
   exact ⟨by rw [HF.out]; rfl, HBW.out⟩
theorem containsf_tw (b : Bool) (gk gx : Nat) (p : Int → Bool) (x : Option Addr) (m c : Nat) (l : List Int) (w : World) (hb : l.any p = b) (hn : l.length = m) (hm : m ≤ 9223372036854775807) (hl : RowAt 1 intC w x l)
 (hp : ∀ W, Below w.heap.size w W → ∀ n, Calls Try.prog 61 #[.int .i64 n, .pointer (some ⟨gk, 0, none⟩), .pointer (some ⟨gx, 0, none⟩)] W fun e w' => e = .returned (.bool (p n)) ∧ Below W.heap.size W w') :
 Calls Try.prog 56 #[.slice x m c, .func (.func 61) #[] #[.pointer (some ⟨gk, 0, none⟩), .pointer (some ⟨gx, 0, none⟩)]] w fun e w' => e = .returned (.bool b) ∧ Below w.heap.size w w' := by
 have hc := ixf_tw gk gx p x m c l w hn hm hl hp
 have hi := ixF_iff p l 0
 obtain ⟨z, hz⟩ : ∃ z, ixF p 0 l = z := ⟨_, rfl⟩
 rw [hz, hb] at hi
 rw [hz] at hc
 have HC := Lib.hid hc
 clear hz hb hn hm hl hp hc
 rcases hi with ⟨h1, rfl⟩ | ⟨h1, rfl⟩
 ·go_enter Try.func56, Try.ntmps56
  go_wp2_with fail
  refine HC.out.mono ?_
  rintro e w1 ⟨rfl, hb1⟩
  have HB := Lib.hid hb1
  clear hb1
  go_wp2_with fail
  go_ret
  exact ⟨rfl, HB.out⟩
 ·have h2 : ¬ 0 ≤ z := by omega
  go_enter Try.func56, Try.ntmps56
  go_wp2_with fail
  refine HC.out.mono ?_
  rintro e w1 ⟨rfl, hb1⟩
  have HB := Lib.hid hb1
  clear hb1
  go_wp2_with fail
  go_ret
  exact ⟨by show Ending.returned (.bool (decide (0 ≤ z))) = _; rw [decide_eq_false (by omega)], HB.out⟩
/-- is a number of the row among those ahead of it? -/
def dupI : List Int → List Int → Bool
 | _, [] => false
 | pre, y :: t => (pre.any fun n => decide (n = y)) || dupI (pre ++ [y]) t
theorem dupI_drop {l : List Int} {y : Int} {k : Nat} (h : l[k]? = some y) : dupI (l.take k) (l.drop k) = (((l.take k).any fun n => decide (n = y)) || dupI (l.take (k + 1)) (l.drop (k + 1))) := by
 have hk : k < l.length := (List.getElem?_eq_some_iff.1 h).1
 rw [List.drop_eq_getElem_cons hk, (List.getElem?_eq_some_iff.1 h).2, List.take_add_one, h]
 rfl
theorem dupI_end {l : List Int} {k : Nat} (h : l.length = k) : dupI (l.take k) (l.drop k) = false := by rw [List.drop_eq_nil_of_le (by omega)]; rfl
attribute [local irreducible] dupI
set_option maxHeartbeats 2000000 in
theorem twice_int (x : Option Addr) (m c : Nat) (l : List Int) (w : World) (hn : l.length = m) (hmc : m ≤ c) (hm : c ≤ 9223372036854775807) (hl : RowAt 1 intC w x l) :
 Calls Try.prog 47 #[.slice x m c, .func (.func 48) #[] #[]] w fun e w' => e = .returned (.bool (dupI [] l)) ∧ Below w.heap.size w w' := by
 have HN := Lib.hid hn
 have HR := Lib.hid hl
 clear hn hl
 obtain ⟨gkb, hgkb⟩ : ∃ g, g = w.heap.size := ⟨_, rfl⟩
 have HG := Lib.hid hgkb
 go_enter Try.func47, Try.ntmps47
 go_upto_region 1 with fail
 have hk0 := alloc1 w (.cells #[.func (.func 48) #[] #[]] 122) (Below.refl _ _)
 have hb0 := below1 w (.cells #[.func (.func 48) #[] #[]] 122)
 obtain ⟨W, hW⟩ : ∃ W, W = w.alloc (.cells #[.func (.func 48) #[] #[]] 122) := ⟨_, rfl⟩
 rw [← hW] at hk0 hb0 ⊢
 rw [← hgkb] at hk0 ⊢
 have HK0 := Lib.hid hk0
 have HB0 := Lib.hid hb0
 clear hW hk0 hb0 hgkb
 go_wp2_with fail
 go_loopg [5, 6, 9] m (fun g _ _ i wr => ∃ k : Nat, k + g = m ∧ i = .int .i64 (k : Int) ∧ dupI (l.take k) (l.drop k) = dupI [] l ∧ Below W.heap.size W wr)
 case atStart => exact ⟨0, by omega, rfl, rfl, Below.refl _ _⟩
 case round =>
  obtain ⟨k, hk, rfl, hb, hbw⟩ := hrel
  have HB := Lib.hid hb
  have HBW := Lib.hid hbw
  clear hb hbw
  by_cases hlt : k < m
  ·obtain ⟨y, hy⟩ : ∃ y, l[k]? = some y := ⟨_, List.getElem?_eq_getElem (by rw [HN.out]; exact hlt)⟩
   have hrow := HR.out.below (below_on HB0.out HBW.out)
   have HROW := Lib.hid hrow
   rcases hrow with hnil | ⟨b, off, rfl, hc⟩
   ·rw [hnil] at hy; simp at hy
   have z0 := hc k _ hy 0 _ rfl
   rw [Nat.add_zero, Nat.mul_one] at z0
   have hd := dupI_drop hy
   have d1 : (0 : Int) ≤ k := by omega
   have d2 : (k : Int) < m := by omega
   have d3 : (k : Int) ≤ c := by omega
   have d4 : k ≤ c := by omega
   have e1 : wrap64 ((k : Int) + 1) = (k : Int) + 1 := by unfold wrap64; omega
   have HK := Lib.hid hk
   have hbx := below1 wr (.cells #[.int .i64 y] 3)
   have hgx := alloc1 wr (.cells #[.int .i64 y] 3) (Below.refl _ _)
   obtain ⟨D, hD⟩ : ∃ D, ((l.take k).any fun n => decide (n = y)) = D := ⟨_, rfl⟩
   rw [hD] at hd
   have HC := Lib.hid (containsf_tw D gkb wr.heap.size (fun n => decide (n = y)) (some ⟨b, off, none⟩) k c (l.take k) (wr.alloc (.cells #[.int .i64 y] 3)) hD (by rw [List.length_take, HN.out]; omega) (by omega) ((HROW.out.take k).below hbx) (fun V hV n => twice1_is _ gkb wr.heap.size y n 122 3 (0, 0) (0, 0) V rfl (blk_keep hV (blk_keep hbx (blk_keep HBW.out HK0.out))) (blk_keep hV hgx)))
   have HBX := Lib.hid hbx
   clear hc hy hk hbx hgx hD HROW
   cases D with
   | true =>
     have HF : Hid (dupI [] l = true) := Lib.hid (HB.out.symm.trans (by rw [hd]; rfl))
     clear hd
     go_wp2_with fail
     refine HC.out.mono ?_
     rintro e w5 ⟨rfl, hb5⟩
     have HB5 := Lib.hid (below_on HB0.out (below_on HBW.out (below_on HBX.out hb5)))
     clear hb5
     go_wp2_with fail
     go_ret
     exact ⟨by rw [HF.out]; rfl, HB5.out⟩
   | false =>
     have HT : Hid (dupI (l.take (k + 1)) (l.drop (k + 1)) = dupI [] l) := Lib.hid (Eq.trans (by rw [hd]; rfl) HB.out)
     clear hd
     go_wp2_with fail
     refine HC.out.mono ?_
     rintro e w5 ⟨rfl, hb5⟩
     have HB5 := Lib.hid (below_on HBW.out (below_on HBX.out hb5))
     clear hb5
     go_wp2_with fail
     go_roundg (m - (k + 1))
     case rel => exact ⟨k + 1, by have := HK.out; omega, by go_num, HT.out, HB5.out⟩
     case measure => have := HK.out; omega
  ·have hkm : m = k := by omega
   subst hkm
   have HF : Hid (dupI [] l = false) := Lib.hid (HB.out.symm.trans (dupI_end HN.out))
   have HB5 := Lib.hid (below_on HB0.out HBW.out)
   go_wp2_with fail
   go_ret
   exact ⟨by rw [HF.out]; rfl, HB5.out⟩
end Go.Proofs.Ytpohoannggdbjaa
namespace Go.Proofs.Ytpohoannggdbjaa
open Go.RowKit
set_option maxRecDepth 100000
attribute [local irreducible] ixF
theorem key_nd (y : Int × Bool) (w : World) : Calls Try.prog 51 #[.agg #[.int .i64 y.1, .bool y.2]] w fun e w' => e = .returned (.int .i64 y.1) ∧ Below w.heap.size w w' := by
 go_enter Try.func51, Try.ntmps51
 go_wp2_with fail
 go_ret
 exact ⟨rfl, below1 _ _⟩
theorem twice1n_is (b : Bool) (gk gx : Nat) (x y : Int × Bool) (tk tx : TypeId) (f1 f2 : Nat × Nat) (w : World) (hb : decide (y.1 = x.1) = b) (hk : w.heap[gk]? = some (.cells #[.func (.func 51) #[] #[]] tk f1)) (hx : w.heap[gx]? = some (.cells #[.int .i64 x.1, .bool x.2] tx f2)) :
 Calls Try.prog 63 #[.agg #[.int .i64 y.1, .bool y.2], .pointer (some ⟨gk, 0, none⟩), .pointer (some ⟨gx, 0, none⟩)] w fun e w' => e = .returned (.bool b) ∧ Below w.heap.size w w' := by
 have HK := Lib.hid hk
 have HX := Lib.hid hx
 have hbe : (x.1 == y.1) = b := by
  rw [← hb]
  by_cases h : y.1 = x.1
  ·rw [h]; simp
  ·rw [decide_eq_false h]; simpa using fun q => h q.symm
 clear hk hx hb
 go_enter Try.func63, Try.ntmps63
 go_upto_region 1 with fail
 have hbY := below1 w (.cells #[.int .i64 y.1, .bool y.2] 55)
 have hgY := alloc1 w (.cells #[.int .i64 y.1, .bool y.2] 55) (Below.refl _ _)
 obtain ⟨V, hV⟩ : ∃ V, V = w.alloc (.cells #[.int .i64 y.1, .bool y.2] 55) := ⟨_, rfl⟩
 obtain ⟨gy, hgy⟩ : ∃ g, g = w.heap.size := ⟨_, rfl⟩
 rw [← hV] at hbY hgY ⊢
 rw [← hgy] at hgY ⊢
 have HY := Lib.hid hgY
 have HBY := Lib.hid hbY
 have HK := Lib.hid (blk_keep hbY HK.out)
 have HX := Lib.hid (blk_keep hbY HX.out)
 have k1 : ∀ w', Below V.heap.size V w' → Calls Try.prog 51 #[.agg #[.int .i64 x.1, .bool x.2]] w' fun e w'' => e = .returned (.int .i64 x.1) ∧ Below V.heap.size V w'' :=
  fun w' hw' => (key_nd x w').mono (fun e w9 ⟨h1, h2⟩ => ⟨h1, below_on hw' h2⟩)
 have k2 : ∀ w', Below V.heap.size V w' → Calls Try.prog 51 #[.agg #[.int .i64 y.1, .bool y.2]] w' fun e w'' => e = .returned (.int .i64 y.1) ∧ Below V.heap.size V w'' :=
  fun w' hw' => (key_nd y w').mono (fun e w9 ⟨h1, h2⟩ => ⟨h1, below_on hw' h2⟩)
 clear hV hgy hbY hgY
 refine wp_region_calm (by kernel_rfl) (by kernel_rfl) ?_
 repeat
  (with_reducible apply wpQuiet_step
   intro K hK
   go_simp
   first
    | (refine hK _ ?_; clear hK K)
    | (apply Exists.intro
       refine ⟨fun w' hw' => ?_, hK _ ?_⟩
       ·
        (first
         | with_reducible exact k1 _ hw'
         | with_reducible exact k2 _ hw'
         | (have e0 := blk_cell (blk_keep hw' HK.out) 0 _ rfl
            have e1 := blk_cell (blk_keep hw' HX.out) 0 _ rfl
            have e2 := blk_cell (blk_keep hw' HX.out) 1 _ rfl
            have e3 := blk_cell (blk_keep hw' HY.out) 0 _ rfl
            have e4 := blk_cell (blk_keep hw' HY.out) 1 _ rfl
            go_simp
            first | done | with_reducible exact rfl | with_reducible exact ⟨rfl, rfl⟩ | with_reducible exact k1 _ hw' | with_reducible exact k2 _ hw'))
       clear hK K))
 refine wpQuiet_nil ?_
 intro w7 hw7
 go_wp2_with fail
 go_ret
 exact ⟨rfl, below_on HBY.out hw7⟩
end Go.Proofs.Ytpohoannggdbjaa
namespace Go.Proofs.Ytpohoannggdbjaa
open Go.RowKit
set_option maxRecDepth 100000
attribute [local irreducible] ixF
set_option maxHeartbeats 1000000 in
theorem ixf_twn (gk gx : Nat) (p : Int × Bool → Bool) (x : Option Addr) (m c : Nat) (l : List (Int × Bool)) (w : World) (hn : l.length = m) (hm : m ≤ 9223372036854775807) (hl : RowAt 2 ndC w x l)
 (hp : ∀ W, Below w.heap.size w W → ∀ n, Calls Try.prog 63 #[.agg #[.int .i64 n.1, .bool n.2], .pointer (some ⟨gk, 0, none⟩), .pointer (some ⟨gx, 0, none⟩)] W fun e w' => e = .returned (.bool (p n)) ∧ Below W.heap.size W w') :
 Calls Try.prog 59 #[.slice x m c, .func (.func 63) #[] #[.pointer (some ⟨gk, 0, none⟩), .pointer (some ⟨gx, 0, none⟩)]] w fun e w' => e = .returned (.int .i64 (ixF p 0 l)) ∧ Below w.heap.size w w' := by
 have HN := Lib.hid hn
 have HP := Lib.hid hp
 have HR := Lib.hid hl
 clear hn hp hl
 go_enter Try.func59, Try.ntmps59
 go_wp2_with fail
 go_loopg [5, 8] m (fun g _ i wr => ∃ k : Nat, k + g = m ∧ i = .int .i64 (k : Int) ∧ ixF p k (l.drop k) = ixF p 0 l ∧ Below w.heap.size w wr)
 case atStart => exact ⟨0, by omega, rfl, rfl, Below.refl _ _⟩
 case round =>
  obtain ⟨k, hk, rfl, hb, hbw⟩ := hrel
  have HB := Lib.hid hb
  have HBW := Lib.hid hbw
  clear hb hbw
  by_cases hlt : k < m
  ·obtain ⟨y, hy⟩ : ∃ y, l[k]? = some y := ⟨_, List.getElem?_eq_getElem (by rw [HN.out]; exact hlt)⟩
   rcases HR.out.below HBW.out with hnil | ⟨b, off, rfl, hc⟩
   ·rw [hnil] at hy; simp at hy
   have z0 := hc k _ hy 0 _ rfl
   have z1 := hc k _ hy 1 _ rfl
   rw [Nat.add_zero] at z0
   have hd := ixF_drop (p := p) hy
   have d1 : (0 : Int) ≤ k := by omega
   have d2 : (k : Int) < m := by omega
   have e1 : wrap64 ((k : Int) + 1) = (k : Int) + 1 := by unfold wrap64; omega
   have HK := Lib.hid hk
   have hcall := HP.out wr HBW.out y
   obtain ⟨D, hD⟩ : ∃ D, p y = D := ⟨_, rfl⟩
   rw [hD] at hcall hd
   have HC := Lib.hid hcall
   clear hc hy hk hcall hD
   cases D with
   | true =>
     have HF : Hid (ixF p 0 l = k) := Lib.hid (HB.out.symm.trans (by rw [hd, if_pos rfl]))
     clear hd
     go_wp2_with fail
     refine HC.out.mono ?_
     rintro e w5 ⟨rfl, hb5⟩
     have HB5 := Lib.hid (below_on HBW.out hb5)
     clear hb5
     go_wp2_with fail
     go_ret
     exact ⟨by rw [HF.out]; rfl, HB5.out⟩
   | false =>
     have HT : Hid (ixF p (k + 1) (l.drop (k + 1)) = ixF p 0 l) := Lib.hid (Eq.trans (by rw [hd, if_neg (by decide)]) HB.out)
     clear hd
     go_wp2_with fail
     refine HC.out.mono ?_
     rintro e w5 ⟨rfl, hb5⟩
     have HB5 := Lib.hid (below_on HBW.out hb5)
     clear hb5
     go_wp2_with fail
     go_roundg (m - (k + 1))
     case rel => exact ⟨k + 1, by have := HK.out; omega, by go_num, HT.out, HB5.out⟩
     case measure => have := HK.out; omega
  ·have hkm : m = k := by omega
   subst hkm
   have HF : Hid (ixF p 0 l = -1) := Lib.hid (HB.out.symm.trans (ixF_end HN.out))
   go_wp2_with fail
   go_ret
   exact ⟨by rw [HF.out]; rfl, HBW.out⟩
theorem containsf_twn (b : Bool) (gk gx : Nat) (p : Int × Bool → Bool) (x : Option Addr) (m c : Nat) (l : List (Int × Bool)) (w : World) (hb : l.any p = b) (hn : l.length = m) (hm : m ≤ 9223372036854775807) (hl : RowAt 2 ndC w x l)
 (hp : ∀ W, Below w.heap.size w W → ∀ n, Calls Try.prog 63 #[.agg #[.int .i64 n.1, .bool n.2], .pointer (some ⟨gk, 0, none⟩), .pointer (some ⟨gx, 0, none⟩)] W fun e w' => e = .returned (.bool (p n)) ∧ Below W.heap.size W w') :
 Calls Try.prog 39 #[.slice x m c, .func (.func 63) #[] #[.pointer (some ⟨gk, 0, none⟩), .pointer (some ⟨gx, 0, none⟩)]] w fun e w' => e = .returned (.bool b) ∧ Below w.heap.size w w' := by
 have hc := ixf_twn gk gx p x m c l w hn hm hl hp
 have hi := ixF_iff p l 0
 obtain ⟨z, hz⟩ : ∃ z, ixF p 0 l = z := ⟨_, rfl⟩
 rw [hz, hb] at hi
 rw [hz] at hc
 have HC := Lib.hid hc
 clear hz hb hn hm hl hp hc
 rcases hi with ⟨h1, rfl⟩ | ⟨h1, rfl⟩
 ·go_enter Try.func39, Try.ntmps39
  go_wp2_with fail
  refine HC.out.mono ?_
  rintro e w1 ⟨rfl, hb1⟩
  have HB := Lib.hid hb1
  clear hb1
  go_wp2_with fail
  go_ret
  exact ⟨rfl, HB.out⟩
 ·have h2 : ¬ 0 ≤ z := by omega
  go_enter Try.func39, Try.ntmps39
  go_wp2_with fail
  refine HC.out.mono ?_
  rintro e w1 ⟨rfl, hb1⟩
  have HB := Lib.hid hb1
  clear hb1
  go_wp2_with fail
  go_ret
  exact ⟨by show Ending.returned (.bool (decide (0 ≤ z))) = _; rw [decide_eq_false (by omega)], HB.out⟩
/-- is a number of the row among those ahead of it? -/
def dupN : List (Int × Bool) → List (Int × Bool) → Bool
 | _, [] => false
 | pre, y :: t => (pre.any fun n => decide (n.1 = y.1)) || dupN (pre ++ [y]) t
theorem dupN_drop {l : List (Int × Bool)} {y : Int × Bool} {k : Nat} (h : l[k]? = some y) : dupN (l.take k) (l.drop k) = (((l.take k).any fun n => decide (n.1 = y.1)) || dupN (l.take (k + 1)) (l.drop (k + 1))) := by
 have hk : k < l.length := (List.getElem?_eq_some_iff.1 h).1
 rw [List.drop_eq_getElem_cons hk, (List.getElem?_eq_some_iff.1 h).2, List.take_add_one, h]
 rfl
theorem dupN_end {l : List (Int × Bool)} {k : Nat} (h : l.length = k) : dupN (l.take k) (l.drop k) = false := by rw [List.drop_eq_nil_of_le (by omega)]; rfl
attribute [local irreducible] dupN
set_option maxHeartbeats 2000000 in
theorem twice_nd (x : Option Addr) (m c : Nat) (l : List (Int × Bool)) (w : World) (hn : l.length = m) (hmc : m ≤ c) (hm : c ≤ 9223372036854775807) (hl : RowAt 2 ndC w x l) :
 Calls Try.prog 50 #[.slice x m c, .func (.func 51) #[] #[]] w fun e w' => e = .returned (.bool (dupN [] l)) ∧ Below w.heap.size w w' := by
 have HN := Lib.hid hn
 have HR := Lib.hid hl
 clear hn hl
 obtain ⟨gkb, hgkb⟩ : ∃ g, g = w.heap.size := ⟨_, rfl⟩
 have HG := Lib.hid hgkb
 go_enter Try.func50, Try.ntmps50
 go_upto_region 1 with fail
 have hk0 := alloc1 w (.cells #[.func (.func 51) #[] #[]] 125) (Below.refl _ _)
 have hb0 := below1 w (.cells #[.func (.func 51) #[] #[]] 125)
 obtain ⟨W, hW⟩ : ∃ W, W = w.alloc (.cells #[.func (.func 51) #[] #[]] 125) := ⟨_, rfl⟩
 rw [← hW] at hk0 hb0 ⊢
 rw [← hgkb] at hk0 ⊢
 have HK0 := Lib.hid hk0
 have HB0 := Lib.hid hb0
 clear hW hk0 hb0 hgkb
 go_wp2_with fail
 go_loopg [5, 6, 9] m (fun g _ _ i wr => ∃ k : Nat, k + g = m ∧ i = .int .i64 (k : Int) ∧ dupN (l.take k) (l.drop k) = dupN [] l ∧ Below W.heap.size W wr)
 case atStart => exact ⟨0, by omega, rfl, rfl, Below.refl _ _⟩
 case round =>
  obtain ⟨k, hk, rfl, hb, hbw⟩ := hrel
  have HB := Lib.hid hb
  have HBW := Lib.hid hbw
  clear hb hbw
  by_cases hlt : k < m
  ·obtain ⟨y, hy⟩ : ∃ y, l[k]? = some y := ⟨_, List.getElem?_eq_getElem (by rw [HN.out]; exact hlt)⟩
   have hrow := HR.out.below (below_on HB0.out HBW.out)
   have HROW := Lib.hid hrow
   rcases hrow with hnil | ⟨b, off, rfl, hc⟩
   ·rw [hnil] at hy; simp at hy
   have z0 := hc k _ hy 0 _ rfl
   have z1 := hc k _ hy 1 _ rfl
   rw [Nat.add_zero] at z0
   have hd := dupN_drop hy
   have d1 : (0 : Int) ≤ k := by omega
   have d2 : (k : Int) < m := by omega
   have d3 : (k : Int) ≤ c := by omega
   have d4 : k ≤ c := by omega
   have e1 : wrap64 ((k : Int) + 1) = (k : Int) + 1 := by unfold wrap64; omega
   have HK := Lib.hid hk
   have hbx := below1 wr (.cells #[.int .i64 y.1, .bool y.2] 55)
   have hgx := alloc1 wr (.cells #[.int .i64 y.1, .bool y.2] 55) (Below.refl _ _)
   obtain ⟨D, hD⟩ : ∃ D, ((l.take k).any fun n => decide (n.1 = y.1)) = D := ⟨_, rfl⟩
   rw [hD] at hd
   have HC := Lib.hid (containsf_twn D gkb wr.heap.size (fun n => decide (n.1 = y.1)) (some ⟨b, off, none⟩) k c (l.take k) (wr.alloc (.cells #[.int .i64 y.1, .bool y.2] 55)) hD (by rw [List.length_take, HN.out]; omega) (by omega) ((HROW.out.take k).below hbx) (fun V hV n => twice1n_is _ gkb wr.heap.size y n 125 55 (0, 0) (0, 0) V rfl (blk_keep hV (blk_keep hbx (blk_keep HBW.out HK0.out))) (blk_keep hV hgx)))
   have HBX := Lib.hid hbx
   clear hc hy hk hbx hgx hD HROW
   cases D with
   | true =>
     have HF : Hid (dupN [] l = true) := Lib.hid (HB.out.symm.trans (by rw [hd]; rfl))
     clear hd
     go_wp2_with fail
     refine HC.out.mono ?_
     rintro e w5 ⟨rfl, hb5⟩
     have HB5 := Lib.hid (below_on HB0.out (below_on HBW.out (below_on HBX.out hb5)))
     clear hb5
     go_wp2_with fail
     go_ret
     exact ⟨by rw [HF.out]; rfl, HB5.out⟩
   | false =>
     have HT : Hid (dupN (l.take (k + 1)) (l.drop (k + 1)) = dupN [] l) := Lib.hid (Eq.trans (by rw [hd]; rfl) HB.out)
     clear hd
     go_wp2_with fail
     refine HC.out.mono ?_
     rintro e w5 ⟨rfl, hb5⟩
     have HB5 := Lib.hid (below_on HBW.out (below_on HBX.out hb5))
     clear hb5
     go_wp2_with fail
     go_roundg (m - (k + 1))
     case rel => exact ⟨k + 1, by have := HK.out; omega, by go_num, HT.out, HB5.out⟩
     case measure => have := HK.out; omega
  ·have hkm : m = k := by omega
   subst hkm
   have HF : Hid (dupN [] l = false) := Lib.hid (HB.out.symm.trans (dupN_end HN.out))
   have HB5 := Lib.hid (below_on HB0.out HBW.out)
   go_wp2_with fail
   go_ret
   exact ⟨by rw [HF.out]; rfl, HB5.out⟩
end Go.Proofs.Ytpohoannggdbjaa
namespace Go.Proofs.Ytpohoannggdbjaa
open Go.RowKit
set_option maxRecDepth 100000

theorem any_eq {l : List Int} {y : Int} : (l.any fun n => decide (n = y)) = false ↔ y ∉ l := by
 rw [List.any_eq_false]
 constructor
 ·intro h hm
  have := h y hm
  simp at this
 ·intro h x hx
  simp
  intro e
  exact h (e ▸ hx)
theorem dupI_iff : ∀ (l pre : List Int), dupI pre l = false ↔ (l.Nodup ∧ ∀ y ∈ l, y ∉ pre) := by
 intro l
 induction l with
 | nil => intro pre; exact ⟨fun _ => ⟨List.nodup_nil, by simp⟩, fun _ => rfl⟩
 | cons y l ih =>
   intro pre
   have e : dupI pre (y :: l) = ((pre.any fun n => decide (n = y)) || dupI (pre ++ [y]) l) := rfl
   rw [e, Bool.or_eq_false_iff, any_eq, ih]
   constructor
   ·rintro ⟨h1, h2, h3⟩
    refine ⟨List.nodup_cons.2 ⟨fun hm => ?_, h2⟩, fun z hz => ?_⟩
    ·exact h3 y hm (by simp)
    ·rcases List.mem_cons.1 hz with rfl | hz
     ·exact h1
     ·exact fun hp => h3 z hz (by simp [hp])
   ·rintro ⟨h1, h2⟩
    obtain ⟨g1, g2⟩ := List.nodup_cons.1 h1
    refine ⟨h2 y (by simp), g2, fun z hz hp => ?_⟩
    rcases List.mem_append.1 hp with hp | hp
    ·exact h2 z (by simp [hz]) hp
    ·simp at hp; subst hp; exact g1 hz
theorem dupN_eq : ∀ (l pre : List (Int × Bool)), dupN pre l = dupI (pre.map (·.1)) (l.map (·.1)) := by
 intro l
 induction l with
 | nil => intro pre; rfl
 | cons y l ih =>
   intro pre
   have e1 : dupN pre (y :: l) = ((pre.any fun n => decide (n.1 = y.1)) || dupN (pre ++ [y]) l) := rfl
   have e2 : dupI (pre.map (·.1)) ((y :: l).map (·.1)) = (((pre.map (·.1)).any fun n => decide (n = y.1)) || dupI (pre.map (·.1) ++ [y.1]) (l.map (·.1))) := rfl
   rw [e1, e2, ih, List.map_append, List.any_map]
   rfl
theorem cntI_count (l : List Int) (s : Int) : cntI l s = l.count s := by
 unfold cntI
 rw [List.count_eq_length_filter]
 congr 1
/-- no number is twice just if each is there once at most -/
theorem dup_count (l : List Int) : dupI [] l = false ↔ ∀ y ∈ l, cntI l y ≤ 1 := by
 rw [dupI_iff]
 constructor
 ·intro h y _
  rw [cntI_count]
  exact List.nodup_iff_count.1 h.1 y
 ·intro h
  refine ⟨List.nodup_iff_count.2 fun y => ?_, by simp⟩
  by_cases hy : y ∈ l
  ·have := h y hy; rwa [cntI_count] at this
  ·rw [List.count_eq_zero_of_not_mem hy]; exact Nat.zero_le _
theorem cnt_pos (l : List Int) (s : Int) : 0 < cntI l s ↔ hasI l s = true := by
 rw [cntI_count, List.count_pos_iff]
 unfold hasI
 rw [List.any_eq_true]
 constructor
 ·exact fun h => ⟨s, h, decide_eq_true rfl⟩
 ·rintro ⟨x, hx, h⟩
  have := of_decide_eq_true h
  subst this
  exact hx
end Go.Proofs.Ytpohoannggdbjaa
namespace Go.Proofs.Ytpohoannggdbjaa
open Go.RowKit
set_option maxRecDepth 100000

def hasP (l : List (Int × Bool)) (k : Nat) : Bool := l.any fun n => decide (n.1 = (k : Int))
theorem hasP_map (l : List (Int × Bool)) (k : Nat) : hasI (l.map (·.1)) (k : Int) = hasP l k := by
 unfold hasI hasP
 rw [List.any_map]
 rfl
/-- is the kth point, which lies in section s, as a route wants it? -/
def okPt (t : List Int) (po fl : List (Int × Bool)) (k : Nat) (s : Int) : Bool := (hasI t s == hasP po k) && !(hasI t s && hasP fl k)
def okPts (t : List Int) (po fl : List (Int × Bool)) : Nat → List (BA × Int) → Bool
 | _, [] => true
 | k, p :: l => okPt t po fl k p.2 && okPts t po fl (k + 1) l
theorem okPts_drop {t : List Int} {po fl : List (Int × Bool)} {l : List (BA × Int)} {p : BA × Int} {k : Nat} (h : l[k]? = some p) : okPts t po fl k (l.drop k) = (okPt t po fl k p.2 && okPts t po fl (k + 1) (l.drop (k + 1))) := by
 have hk : k < l.length := (List.getElem?_eq_some_iff.1 h).1
 rw [List.drop_eq_getElem_cons hk, (List.getElem?_eq_some_iff.1 h).2]
 rfl
theorem okPts_end {t : List Int} {po fl : List (Int × Bool)} {l : List (BA × Int)} {k : Nat} (h : l.length = k) : okPts t po fl k (l.drop k) = true := by rw [List.drop_eq_nil_of_le (by omega)]; rfl
theorem okPt_ne {t : List Int} {po fl : List (Int × Bool)} {k : Nat} {s : Int} {b c : Bool} (h1 : hasI t s = b) (h2 : hasP po k = c) (h : b ≠ c) : okPt t po fl k s = false := by
 unfold okPt; rw [h1, h2]; cases b <;> cases c <;> first | rfl | exact absurd rfl h
theorem okPt_no {t : List Int} {po fl : List (Int × Bool)} {k : Nat} {s : Int} (h1 : hasI t s = false) (h2 : hasP po k = false) : okPt t po fl k s = true := by
 unfold okPt; rw [h1, h2]; rfl
theorem okPt_in {t : List Int} {po fl : List (Int × Bool)} {k : Nat} {s : Int} {b : Bool} (h1 : hasI t s = true) (h2 : hasP po k = true) (h3 : hasP fl k = b) : okPt t po fl k s = !b := by
 unfold okPt; rw [h1, h2, h3]; cases b <;> rfl
/-- the section of the kth signal -/
def secOf (L : Lay) (k : Int) : Int := ((L.sg.l[k.toNat]?).map (·.2)).getD 0
theorem secOf_at {L : Lay} {k : Nat} {p : BA × Int} (h : L.sg.l[k]? = some p) : secOf L (k : Int) = p.2 := by unfold secOf; rw [Int.toNat_natCast, h]; rfl
def formedS (L : Lay) (r : Rt) : Bool :=
 (!decide (r.pa.l.length = 0) && !dupI [] (r.pa.l ++ r.ov.l)) && (!hasI (r.pa.l ++ r.ov.l) (secOf L r.sg) && !dupN [] (r.po.l ++ r.fl.l)) && okPts (r.pa.l ++ r.ov.l) r.po.l r.fl.l 0 L.po.l
theorem fs_0 {L : Lay} {r : Rt} (h : r.pa.l.length = 0) : formedS L r = false := by unfold formedS; rw [decide_eq_true h]; rfl
theorem fs_1 {L : Lay} {r : Rt} (h : dupI [] (r.pa.l ++ r.ov.l) = true) : formedS L r = false := by unfold formedS; rw [h]; simp
theorem fs_2 {L : Lay} {r : Rt} (h : hasI (r.pa.l ++ r.ov.l) (secOf L r.sg) = true) : formedS L r = false := by unfold formedS; rw [h]; simp
theorem fs_3 {L : Lay} {r : Rt} (h : dupN [] (r.po.l ++ r.fl.l) = true) : formedS L r = false := by unfold formedS; rw [h]; simp
theorem fs_4 {L : Lay} {r : Rt} (h : okPts (r.pa.l ++ r.ov.l) r.po.l r.fl.l 0 L.po.l = false) : formedS L r = false := by unfold formedS; rw [h]; simp
theorem fs_5 {L : Lay} {r : Rt} (h0 : ¬ r.pa.l.length = 0) (h1 : dupI [] (r.pa.l ++ r.ov.l) = false) (h2 : hasI (r.pa.l ++ r.ov.l) (secOf L r.sg) = false) (h3 : dupN [] (r.po.l ++ r.fl.l) = false) (h4 : okPts (r.pa.l ++ r.ov.l) r.po.l r.fl.l 0 L.po.l = true) : formedS L r = true := by
 unfold formedS; rw [decide_eq_false h0, h1, h2, h3, h4]; rfl
/-- by counting -/
theorem dup_big {l : List Int} {y : Int} (hy : y ∈ l) (h : 1 < cntI l y) : dupI [] l = true := by
 cases hd : dupI [] l with
 | true => rfl
 | false => exact absurd ((dup_count l).1 hd y hy) (by omega)
theorem dup_small {l : List Int} (h : ∀ y ∈ l, ¬ 1 < cntI l y) : dupI [] l = false := (dup_count l).2 (fun y hy => Nat.le_of_not_lt (h y hy))
theorem dupN_map (l : List (Int × Bool)) : dupN [] l = dupI [] (l.map (·.1)) := dupN_eq l []
theorem cnt_no {l : List Int} {s : Int} (h : hasI l s = false) : cntI l s = 0 := by
 have := (cnt_pos l s).1
 rw [h] at this
 cases hc : cntI l s with
 | zero => rfl
 | succ n => exact absurd (this (by omega)) (by decide)
theorem cnt_yes {l : List Int} {s : Int} (h : hasI l s = true) : 0 < cntI l s := (cnt_pos l s).2 h
end Go.Proofs.Ytpohoannggdbjaa
namespace Go.Proofs.Ytpohoannggdbjaa
open Go.RowKit
set_option maxRecDepth 100000

/-- what lies in memory while a route is looked at: copies of the layout and of the route -/
structure FoAt (w0 w : World) (gl gr : Nat) (L : Lay) (r : Rt) : Prop where
 lay : w.heap[gl]? = some (.cells #[L.se.v, L.po.v, L.sg.v, L.rt.v] 27)
 rt : w.heap[gr]? = some (.cells #[.string r.nm, .int .i64 r.sg, r.pa.v, r.po.v, r.ov.v, r.fl.v] 58)
 below : Below w0.heap.size w0 w
theorem FoAt.step {w0 w w' : World} {gl gr : Nat} {L : Lay} {r : Rt} (h : FoAt w0 w gl gr L r) (hb : Below w.heap.size w w') : FoAt w0 w' gl gr L r := ⟨blk_keep hb h.lay, blk_keep hb h.rt, below_on h.below hb⟩
theorem has_to (b : Bool) (k : Nat) (x : Option Addr) (m c : Nat) (l : List (Int × Bool)) (w : World) (hb : hasP l k = b) (hn : l.length = m) (hm : m ≤ 9223372036854775807) (hl : RowAt 2 ndC w x l) :
 Calls Try.prog 52 #[.slice x m c, .int .i64 (k : Int)] w fun e w' => e = .returned (.bool b) ∧ Below w.heap.size w w' := has_is b k x m c l w (by unfold hasP at hb; exact hb) hn hm hl
attribute [local irreducible] hasI hasP dupI dupN okPt okPts secOf formedS Sl.v
set_option maxRecDepth 100000 in
set_option maxHeartbeats 20000000 in
theorem formed_is (L : Lay) (r : Rt) (w : World) (hL : LayAt w L) (hr : RtAt w r) (hsg : 0 ≤ r.sg) (hsn : r.sg < (L.sg.l.length : Int)) (hl1 : r.pa.l.length + r.ov.l.length ≤ 100000) (hl2 : r.po.l.length + r.fl.l.length ≤ 100000) :
 Calls Try.prog 28 #[.agg #[L.se.v, L.po.v, L.sg.v, L.rt.v], .agg #[.string r.nm, .int .i64 r.sg, r.pa.v, r.po.v, r.ov.v, r.fl.v]] w fun e w' => e = .returned (.bool (formedS L r)) ∧ Below w.heap.size w w' := by
 have HA := Lib.hid hL
 have HTR : Hid (∀ W, Below w.heap.size w W → Calls Try.prog 14 #[.agg #[.string r.nm, .int .i64 r.sg, r.pa.v, r.po.v, r.ov.v, r.fl.v]] W fun e w' => ∃ a n c, e = .returned (.slice a n c) ∧ n = r.pa.l.length + r.ov.l.length ∧ SlAt 1 intC w' ⟨a, c, r.pa.l ++ r.ov.l⟩ ∧ Below W.heap.size W w') := Lib.hid (fun W hb => track_is r W (hr.below hb) hl1)
 have HND : Hid (∀ W, Below w.heap.size w W → Calls Try.prog 15 #[.agg #[.string r.nm, .int .i64 r.sg, r.pa.v, r.po.v, r.ov.v, r.fl.v]] W fun e w' => ∃ a n c, e = .returned (.slice a n c) ∧ n = r.po.l.length + r.fl.l.length ∧ SlAt 2 ndC w' ⟨a, c, r.po.l ++ r.fl.l⟩ ∧ Below W.heap.size W w') := Lib.hid (fun W hb => needs_is r W (hr.below hb) hl2)
 obtain ⟨n1, hn1⟩ : ∃ n, L.se.l.length = n := ⟨_, rfl⟩
 obtain ⟨n2, hn2⟩ : ∃ n, L.po.l.length = n := ⟨_, rfl⟩
 obtain ⟨n3, hn3⟩ : ∃ n, L.sg.l.length = n := ⟨_, rfl⟩
 obtain ⟨n4, hn4⟩ : ∃ n, L.rt.l.length = n := ⟨_, rfl⟩
 obtain ⟨m1, hm1⟩ : ∃ n, r.pa.l.length = n := ⟨_, rfl⟩
 obtain ⟨m2, hm2⟩ : ∃ n, r.po.l.length = n := ⟨_, rfl⟩
 obtain ⟨m3, hm3⟩ : ∃ n, r.ov.l.length = n := ⟨_, rfl⟩
 obtain ⟨m4, hm4⟩ : ∃ n, r.fl.l.length = n := ⟨_, rfl⟩
 have v1 := slv hn1
 have v2 := slv hn2
 have v3 := slv hn3
 have v4 := slv hn4
 have u1 := slv hm1
 have u2 := slv hm2
 have u3 := slv hm3
 have u4 := slv hm4
 have R2 := Lib.hid hL.po.row
 have R3 := Lib.hid hL.sg.row
 have M2 := Lib.hid hL.po.lenM
 have Q2 := Lib.hid hr.po.row
 have Q4 := Lib.hid hr.fl.row
 obtain ⟨T, hT⟩ : ∃ T, r.pa.l ++ r.ov.l = T := ⟨_, rfl⟩
 obtain ⟨N, hN⟩ : ∃ N, r.po.l ++ r.fl.l = N := ⟨_, rfl⟩
 obtain ⟨nm, hnm⟩ : ∃ x, r.nm = x := ⟨_, rfl⟩
 obtain ⟨ks, hks⟩ : ∃ k : Nat, r.sg = (k : Int) := ⟨r.sg.toNat, by omega⟩
 obtain ⟨a1, ha1⟩ : ∃ a, L.se.a = a := ⟨_, rfl⟩
 obtain ⟨c1, hc1⟩ : ∃ a, L.se.c = a := ⟨_, rfl⟩
 rw [ha1, hc1] at v1
 obtain ⟨a2, ha2⟩ : ∃ a, L.po.a = a := ⟨_, rfl⟩
 obtain ⟨c2, hc2⟩ : ∃ a, L.po.c = a := ⟨_, rfl⟩
 rw [ha2, hc2] at v2
 obtain ⟨a3, ha3⟩ : ∃ a, L.sg.a = a := ⟨_, rfl⟩
 obtain ⟨c3, hc3⟩ : ∃ a, L.sg.c = a := ⟨_, rfl⟩
 rw [ha3, hc3] at v3
 obtain ⟨a4, ha4⟩ : ∃ a, L.rt.a = a := ⟨_, rfl⟩
 obtain ⟨c4, hc4⟩ : ∃ a, L.rt.c = a := ⟨_, rfl⟩
 rw [ha4, hc4] at v4
 obtain ⟨b1, hb1⟩ : ∃ a, r.pa.a = a := ⟨_, rfl⟩
 obtain ⟨e1, he1⟩ : ∃ a, r.pa.c = a := ⟨_, rfl⟩
 rw [hb1, he1] at u1
 obtain ⟨b2, hb2⟩ : ∃ a, r.po.a = a := ⟨_, rfl⟩
 obtain ⟨e2, he2⟩ : ∃ a, r.po.c = a := ⟨_, rfl⟩
 rw [hb2, he2] at u2
 obtain ⟨b3, hb3⟩ : ∃ a, r.ov.a = a := ⟨_, rfl⟩
 obtain ⟨e3, he3⟩ : ∃ a, r.ov.c = a := ⟨_, rfl⟩
 rw [hb3, he3] at u3
 obtain ⟨b4, hb4⟩ : ∃ a, r.fl.a = a := ⟨_, rfl⟩
 obtain ⟨e4, he4⟩ : ∃ a, r.fl.c = a := ⟨_, rfl⟩
 rw [hb4, he4] at u4
 rw [ha2] at R2
 rw [ha3] at R3
 rw [hb2] at Q2
 rw [hb4] at Q4
 rw [hn3, hks] at hsn
 rw [hnm, hks, u1, u2, u3, u4] at HTR HND
 rw [hT, hm1, hm3] at HTR
 rw [hN, hm2, hm4] at HND
 rw [hnm, hks, u1, u2, u3, u4, v1, v2, v3, v4]
 have HV := Lib.hid (And.intro v1 (And.intro v2 (And.intro v3 v4)))
 have HU := Lib.hid (And.intro hnm (And.intro hks (And.intro u1 (And.intro u2 (And.intro u3 u4)))))
 have HNN := Lib.hid (And.intro hn2 hn3)
 have HMM := Lib.hid (And.intro hm1 (And.intro hm2 (And.intro hm3 hm4)))
 have HTN := Lib.hid (And.intro hT hN)
 have HT : Hid (T.length = m1 + m3) := Lib.hid (by rw [← hT, List.length_append, hm1, hm3])
 have HN : Hid (N.length = m2 + m4) := Lib.hid (by rw [← hN, List.length_append, hm2, hm4])
 rw [hm1, hm3] at hl1
 rw [hm2, hm4] at hl2
 have HL1 := Lib.hid hl1
 have HL2 := Lib.hid hl2
 have s1 : (0 : Int) ≤ ks := by omega
 have HSN := Lib.hid (show ks < n3 by omega)
 have s2 : (ks : Int) < n3 := hsn
 clear hn1 hn2 hn3 hn4 hm1 hm2 hm3 hm4 ha1 ha2 ha3 ha4 hc1 hc2 hc3 hc4 hb1 hb2 hb3 hb4 he1 he2 he3 he4 v1 v2 v3 v4 u1 u2 u3 u4 hL hr hnm hks hT hN hsg hsn hl1 hl2
 obtain ⟨gl, hgl⟩ : ∃ g, g = w.heap.size := ⟨_, rfl⟩
 obtain ⟨gr, hgr⟩ : ∃ g, g = gl + 1 := ⟨_, rfl⟩
 have HGL := Lib.hid hgl
 have HGR := Lib.hid hgr
 clear hgl hgr
 go_enter Try.func28, Try.ntmps28
 go_wp2_with fail
 refine (HTR.out _ (below2' w _ _)).mono ?_
 rintro e w1 ⟨ta, tn, tc, rfl, hn, hS, hb⟩
 have HM : FoAt w w1 gl gr L r := by
  obtain ⟨q1, q2⟩ := alloc2' w (.cells #[.slice a1 n1 c1, .slice a2 n2 c2, .slice a3 n3 c3, .slice a4 n4 c4] 27) (.cells #[.string nm, .int .i64 (ks : Int), .slice b1 m1 e1, .slice b2 m2 e2, .slice b3 m3 e3, .slice b4 m4 e4] 58)
  obtain ⟨x1, x2, x3, x4⟩ := HV.out
  obtain ⟨y1, y2, y3, y4, y5, y6⟩ := HU.out
  refine ⟨?_, ?_, below_on (below2' w _ _) hb⟩
  ·rw [HGL.out, x1, x2, x3, x4]; exact blk_keep hb q1
  ·rw [HGR.out, HGL.out, y1, y2, y3, y4, y5, y6]; exact blk_keep hb q2
 rw [← HGL.out, ← HGR.out]
 have HM := Lib.hid HM
 have HS := Lib.hid hS
 obtain rfl := hn
 clear hb hS
 obtain ⟨l1, l2, r1, r2, r3, r5⟩ : w1.cell? ⟨gl, 1, none⟩ = some (.slice a2 n2 c2) ∧ w1.cell? ⟨gl, 2, none⟩ = some (.slice a3 n3 c3) ∧ w1.cell? ⟨gr, 1, none⟩ = some (.int .i64 (ks : Int)) ∧ w1.cell? ⟨gr, 2, none⟩ = some (.slice b1 m1 e1) ∧ w1.cell? ⟨gr, 3, none⟩ = some (.slice b2 m2 e2) ∧ w1.cell? ⟨gr, 5, none⟩ = some (.slice b4 m4 e4) := by
  obtain ⟨x1, x2, x3, x4⟩ := HV.out
  obtain ⟨y1, y2, y3, y4, y5, y6⟩ := HU.out
  rw [← x2, ← x3, ← y2, ← y3, ← y4, ← y6]
  exact ⟨blk_cell HM.out.lay 1 _ rfl, blk_cell HM.out.lay 2 _ rfl, blk_cell HM.out.rt 1 _ rfl, blk_cell HM.out.rt 2 _ rfl, blk_cell HM.out.rt 3 _ rfl, blk_cell HM.out.rt 5 _ rfl⟩
 by_cases h0 : m1 = 0
 ·have HF : Hid (formedS L r = false) := Lib.hid (fs_0 (HMM.out.1.trans h0))
  subst h0
  go_wp2_with fail
  go_ret
  exact ⟨by rw [HF.out]; rfl, HM.out.below⟩
 have h01 : ¬ (m1 : Int) = 0 := by omega
 have H0 := Lib.hid h0
 clear h0
 go_wp2_with fail
 clear l1 l2 r1 r2 r3 r5
 refine (twice_int ta _ tc T w1 HT.out (by have := HS.out.len; rw [HT.out] at this; exact this) (by have := HS.out.cap; unfold maxLen at this; omega) HS.out.row).mono ?_
 rintro e w2 ⟨rfl, hb⟩
 have hM := HM.out.step hb
 have hS := HS.out.below hb
 clear HM HS hb h01
 have HM := Lib.hid hM
 have HS := Lib.hid hS
 clear hM hS
 obtain ⟨D, hD⟩ : ∃ D, dupI [] T = D := ⟨_, rfl⟩
 rw [hD]
 cases D with
 | true =>
   have HF : Hid (formedS L r = false) := Lib.hid (fs_1 (by rw [HTN.out.1]; exact hD))
   clear hD
   go_wp2_with fail
   go_ret
   exact ⟨by rw [HF.out]; rfl, HM.out.below⟩
 | false =>
   have HD1 := Lib.hid hD
   clear hD
   obtain ⟨l1, l2, r1, r2, r3, r5⟩ : w2.cell? ⟨gl, 1, none⟩ = some (.slice a2 n2 c2) ∧ w2.cell? ⟨gl, 2, none⟩ = some (.slice a3 n3 c3) ∧ w2.cell? ⟨gr, 1, none⟩ = some (.int .i64 (ks : Int)) ∧ w2.cell? ⟨gr, 2, none⟩ = some (.slice b1 m1 e1) ∧ w2.cell? ⟨gr, 3, none⟩ = some (.slice b2 m2 e2) ∧ w2.cell? ⟨gr, 5, none⟩ = some (.slice b4 m4 e4) := by
    obtain ⟨x1, x2, x3, x4⟩ := HV.out
    obtain ⟨y1, y2, y3, y4, y5, y6⟩ := HU.out
    rw [← x2, ← x3, ← y2, ← y3, ← y4, ← y6]
    exact ⟨blk_cell HM.out.lay 1 _ rfl, blk_cell HM.out.lay 2 _ rfl, blk_cell HM.out.rt 1 _ rfl, blk_cell HM.out.rt 2 _ rfl, blk_cell HM.out.rt 3 _ rfl, blk_cell HM.out.rt 5 _ rfl⟩
   obtain ⟨y, hy⟩ : ∃ y, L.sg.l[ks]? = some y := ⟨_, List.getElem?_eq_getElem (by rw [HNN.out.2]; exact HSN.out)⟩
   rcases R3.out.below HM.out.below with hnil | ⟨xs, os, rfl, hc⟩
   ·rw [hnil] at hy; simp at hy
   obtain ⟨y0, y1⟩ := y
   have z1 := hc ks _ hy 1 _ rfl
   have hsec := secOf_at hy
   dsimp only at z1 hsec
   rw [← HU.out.2.1] at hsec
   have HSE := Lib.hid hsec
   clear hc hy hsec
   obtain ⟨D, hD⟩ : ∃ D, hasI T y1 = D := ⟨_, rfl⟩
   have HC := Lib.hid (contains_is D ta (m1 + m3) tc T y1 w2 hD HT.out (by have := HL1.out; omega) HS.out.row)
   go_wp2_with fail
   refine HC.out.mono ?_
   rintro e w3 ⟨rfl, rfl⟩
   clear HC z1
   clear l1 l2 r1 r2 r3 r5
   cases D with
   | true =>
     have HF : Hid (formedS L r = false) := Lib.hid (fs_2 (by rw [HTN.out.1, HSE.out]; exact hD))
     clear hD
     go_wp2_with fail
     go_ret
     exact ⟨by rw [HF.out]; rfl, HM.out.below⟩
   | false =>
     have HD2 : Hid (hasI T (secOf L r.sg) = false) := Lib.hid (by rw [HSE.out]; exact hD)
     clear hD HSE
     obtain ⟨r0, r1, r2, r3, r4, r5⟩ : w2.cell? ⟨gr, 0, none⟩ = some (.string nm) ∧ w2.cell? ⟨gr, 1, none⟩ = some (.int .i64 (ks : Int)) ∧ w2.cell? ⟨gr, 2, none⟩ = some (.slice b1 m1 e1) ∧ w2.cell? ⟨gr, 3, none⟩ = some (.slice b2 m2 e2) ∧ w2.cell? ⟨gr, 4, none⟩ = some (.slice b3 m3 e3) ∧ w2.cell? ⟨gr, 5, none⟩ = some (.slice b4 m4 e4) := by
      obtain ⟨y1, y2, y3, y4, y5, y6⟩ := HU.out
      rw [← y1, ← y2, ← y3, ← y4, ← y5, ← y6]
      exact ⟨blk_cell HM.out.rt 0 _ rfl, blk_cell HM.out.rt 1 _ rfl, blk_cell HM.out.rt 2 _ rfl, blk_cell HM.out.rt 3 _ rfl, blk_cell HM.out.rt 4 _ rfl, blk_cell HM.out.rt 5 _ rfl⟩
     go_wp2_with fail
     clear r0 r1 r2 r3 r4 r5
     refine (HND.out _ HM.out.below).mono ?_
     rintro e w3 ⟨na, nn, nc, rfl, hn, hS2, hb⟩
     have hM := HM.out.step hb
     have hS := HS.out.below hb
     clear HM HS hb
     have HM := Lib.hid hM
     have HS := Lib.hid hS
     have HS2 := Lib.hid hS2
     obtain rfl := hn
     clear hM hS hS2
     go_wp2_with fail
     refine (twice_nd na _ nc N w3 HN.out (by have := HS2.out.len; rw [HN.out] at this; exact this) (by have := HS2.out.cap; unfold maxLen at this; omega) HS2.out.row).mono ?_
     rintro e w4 ⟨rfl, hb⟩
     have hM := HM.out.step hb
     have hS := HS.out.below hb
     clear HM HS HS2 hb
     have HM := Lib.hid hM
     have HS := Lib.hid hS
     clear hM hS
     obtain ⟨D, hD⟩ : ∃ D, dupN [] N = D := ⟨_, rfl⟩
     rw [hD]
     cases D with
     | true =>
       have HF : Hid (formedS L r = false) := Lib.hid (fs_3 (by rw [HTN.out.2]; exact hD))
       clear hD
       go_wp2_with fail
       go_ret
       exact ⟨by rw [HF.out]; rfl, HM.out.below⟩
     | false =>
       have HD3 := Lib.hid hD
       clear hD
       obtain ⟨l1, l2, r1, r2, r3, r5⟩ : w4.cell? ⟨gl, 1, none⟩ = some (.slice a2 n2 c2) ∧ w4.cell? ⟨gl, 2, none⟩ = some (.slice (some ⟨xs, os, none⟩) n3 c3) ∧ w4.cell? ⟨gr, 1, none⟩ = some (.int .i64 (ks : Int)) ∧ w4.cell? ⟨gr, 2, none⟩ = some (.slice b1 m1 e1) ∧ w4.cell? ⟨gr, 3, none⟩ = some (.slice b2 m2 e2) ∧ w4.cell? ⟨gr, 5, none⟩ = some (.slice b4 m4 e4) := by
        obtain ⟨x1, x2, x3, x4⟩ := HV.out
        obtain ⟨y1, y2, y3, y4, y5, y6⟩ := HU.out
        rw [← x2, ← x3, ← y2, ← y3, ← y4, ← y6]
        exact ⟨blk_cell HM.out.lay 1 _ rfl, blk_cell HM.out.lay 2 _ rfl, blk_cell HM.out.rt 1 _ rfl, blk_cell HM.out.rt 2 _ rfl, blk_cell HM.out.rt 3 _ rfl, blk_cell HM.out.rt 5 _ rfl⟩
       go_wp2_with fail
       clear l1 l2 r1 r2 r3 r5
       go_loopg [6, 7, 8, 33] n2 (fun g _ _ _ i wr => ∃ k : Nat, k + g = n2 ∧ i = .int .i64 (k : Int) ∧ okPts T r.po.l r.fl.l k (L.po.l.drop k) = okPts T r.po.l r.fl.l 0 L.po.l ∧ FoAt w wr gl gr L r ∧ SlAt 1 intC wr ⟨ta, tc, T⟩)
       case atStart => exact ⟨0, by omega, rfl, rfl, HM.out, HS.out⟩
       case round =>
        obtain ⟨k, hk, rfl, hst, hM, hS⟩ := hrel
        clear HM HS
        have HM := Lib.hid hM
        have HS := Lib.hid hS
        have HST := Lib.hid hst
        clear hst hM hS
        by_cases hlt : k < n2
        ·obtain ⟨y, hy⟩ : ∃ y, L.po.l[k]? = some y := ⟨_, List.getElem?_eq_getElem (by rw [HNN.out.1]; exact hlt)⟩
         rcases R2.out.below HM.out.below with hnil | ⟨xb, off, rfl, hc⟩
         ·rw [hnil] at hy; simp at hy
         obtain ⟨y0, y1⟩ := y
         have z0 := hc k _ hy 0 _ rfl
         have z1 := hc k _ hy 1 _ rfl
         rw [Nat.add_zero] at z0
         dsimp only at z0 z1
         have HY := Lib.hid hy
         have d1 : (0 : Int) ≤ k := by omega
         have d2 : (k : Int) < n2 := by omega
         have e0 : wrap64 ((k : Int) + 1) = (k : Int) + 1 := by have := HNN.out; have := M2.out; unfold wrap64; omega
         have HK := Lib.hid hk
         clear hc hy hk
         have hb4 := below1 wr (.cells #[.string y0, .int .i64 y1] 51)
         have hM := HM.out.step hb4
         have hS := HS.out.below hb4
         clear HM HS
         have HM := Lib.hid hM
         have HS := Lib.hid hS
         clear hM hS hb4
         obtain ⟨D, hD⟩ : ∃ D, hasI T y1 = D := ⟨_, rfl⟩
         have HD := Lib.hid hD
         have HC := Lib.hid (contains_is D ta (m1 + m3) tc T y1 (wr.alloc (.cells #[.string y0, .int .i64 y1] 51)) hD HT.out (by have := HL1.out; omega) HS.out.row)
         clear hD
         go_wp2_with fail
         refine HC.out.mono ?_
         rintro e w5 ⟨rfl, rfl⟩
         clear HC z0 z1
         obtain ⟨W5, hW5⟩ : ∃ W, W = wr.alloc (.cells #[.string y0, .int .i64 y1] 51) := ⟨_, rfl⟩
         rw [← hW5] at HM HS ⊢
         clear hW5
         obtain ⟨E, hE⟩ : ∃ E, hasP r.po.l k = E := ⟨_, rfl⟩
         have HE := Lib.hid hE
         have HC := Lib.hid (has_to E k b2 m2 e2 r.po.l W5 hE HMM.out.2.1 (by have := HL2.out; omega) (Q2.out.below HM.out.below))
         clear hE
         obtain ⟨l1, l2, r1, r2, r3, r5⟩ : W5.cell? ⟨gl, 1, none⟩ = some (.slice (some ⟨xb, off, none⟩) n2 c2) ∧ W5.cell? ⟨gl, 2, none⟩ = some (.slice (some ⟨xs, os, none⟩) n3 c3) ∧ W5.cell? ⟨gr, 1, none⟩ = some (.int .i64 (ks : Int)) ∧ W5.cell? ⟨gr, 2, none⟩ = some (.slice b1 m1 e1) ∧ W5.cell? ⟨gr, 3, none⟩ = some (.slice b2 m2 e2) ∧ W5.cell? ⟨gr, 5, none⟩ = some (.slice b4 m4 e4) := by
          obtain ⟨x1, x2, x3, x4⟩ := HV.out
          obtain ⟨y1, y2, y3, y4, y5, y6⟩ := HU.out
          rw [← x2, ← x3, ← y2, ← y3, ← y4, ← y6]
          exact ⟨blk_cell HM.out.lay 1 _ rfl, blk_cell HM.out.lay 2 _ rfl, blk_cell HM.out.rt 1 _ rfl, blk_cell HM.out.rt 2 _ rfl, blk_cell HM.out.rt 3 _ rfl, blk_cell HM.out.rt 5 _ rfl⟩
         go_wp2_with fail
         refine HC.out.mono ?_
         rintro e w6 ⟨rfl, hb⟩
         have hM := HM.out.step hb
         have hS := HS.out.below hb
         clear HM HS HC hb l1 l2 r1 r2 r3 r5
         have HM := Lib.hid hM
         have HS := Lib.hid hS
         clear hM hS
         rcases Decidable.em (D = E) with hde | hde
         ·subst hde
          cases D with
          | false =>
            have HX : Hid (okPts T r.po.l r.fl.l (k + 1) (L.po.l.drop (k + 1)) = okPts T r.po.l r.fl.l 0 L.po.l) := Lib.hid (by rw [← HST.out, okPts_drop HY.out, okPt_no HD.out HE.out]; rfl)
            go_wp2_with fail
            go_roundg (n2 - (k + 1))
            case rel => exact ⟨k + 1, by have := HK.out; omega, by go_num, HX.out, HM.out, HS.out⟩
            case measure => have := HK.out; omega
          | true =>
            obtain ⟨F, hF⟩ : ∃ F, hasP r.fl.l k = F := ⟨_, rfl⟩
            have HFF := Lib.hid hF
            have HC := Lib.hid (has_to F k b4 m4 e4 r.fl.l w6 hF HMM.out.2.2.2 (by have := HL2.out; omega) (Q4.out.below HM.out.below))
            clear hF
            obtain ⟨l1, l2, r1, r2, r3, r5⟩ : w6.cell? ⟨gl, 1, none⟩ = some (.slice (some ⟨xb, off, none⟩) n2 c2) ∧ w6.cell? ⟨gl, 2, none⟩ = some (.slice (some ⟨xs, os, none⟩) n3 c3) ∧ w6.cell? ⟨gr, 1, none⟩ = some (.int .i64 (ks : Int)) ∧ w6.cell? ⟨gr, 2, none⟩ = some (.slice b1 m1 e1) ∧ w6.cell? ⟨gr, 3, none⟩ = some (.slice b2 m2 e2) ∧ w6.cell? ⟨gr, 5, none⟩ = some (.slice b4 m4 e4) := by
             obtain ⟨x1, x2, x3, x4⟩ := HV.out
             obtain ⟨y1, y2, y3, y4, y5, y6⟩ := HU.out
             rw [← x2, ← x3, ← y2, ← y3, ← y4, ← y6]
             exact ⟨blk_cell HM.out.lay 1 _ rfl, blk_cell HM.out.lay 2 _ rfl, blk_cell HM.out.rt 1 _ rfl, blk_cell HM.out.rt 2 _ rfl, blk_cell HM.out.rt 3 _ rfl, blk_cell HM.out.rt 5 _ rfl⟩
            go_wp2_with fail
            refine HC.out.mono ?_
            rintro e w7 ⟨rfl, hb⟩
            have hM := HM.out.step hb
            have hS := HS.out.below hb
            clear HM HS HC hb l1 l2 r1 r2 r3 r5
            have HM := Lib.hid hM
            have HS := Lib.hid hS
            clear hM hS
            cases F with
            | false =>
              have HX : Hid (okPts T r.po.l r.fl.l (k + 1) (L.po.l.drop (k + 1)) = okPts T r.po.l r.fl.l 0 L.po.l) := Lib.hid (by rw [← HST.out, okPts_drop HY.out, okPt_in HD.out HE.out HFF.out]; rfl)
              go_wp2_with fail
              go_roundg (n2 - (k + 1))
              case rel => exact ⟨k + 1, by have := HK.out; omega, by go_num, HX.out, HM.out, HS.out⟩
              case measure => have := HK.out; omega
            | true =>
              have HF : Hid (formedS L r = false) := Lib.hid (fs_4 (by rw [HTN.out.1, ← HST.out, okPts_drop HY.out, okPt_in HD.out HE.out HFF.out]; rfl))
              go_wp2_with fail
              go_ret
              exact ⟨by rw [HF.out]; rfl, HM.out.below⟩
         ·have HF : Hid (formedS L r = false) := Lib.hid (fs_4 (by rw [HTN.out.1, ← HST.out, okPts_drop HY.out, okPt_ne HD.out HE.out hde]; rfl))
          cases D <;> cases E <;> first | exact absurd rfl hde | skip
          all_goals
           clear hde
           go_wp2_with fail
           go_ret
           exact ⟨by rw [HF.out]; rfl, HM.out.below⟩
        ·have hkm : n2 = k := by omega
         subst hkm
         have HF : Hid (formedS L r = true) := Lib.hid (fs_5 (by rw [HMM.out.1]; exact H0.out) (by rw [HTN.out.1]; exact HD1.out) (by rw [HTN.out.1]; exact HD2.out) (by rw [HTN.out.2]; exact HD3.out) (by rw [HTN.out.1, ← HST.out, okPts_end HNN.out.1]))
         go_wp2_with fail
         go_ret
         exact ⟨by rw [HF.out]; rfl, HM.out.below⟩
end Go.Proofs.Ytpohoannggdbjaa
namespace Go.Proofs.Ytpohoannggdbjaa
open Go.RowKit
set_option maxRecDepth 100000

theorem belowB_mem {n : Nat} {l : List Int} (h : belowB n l = true) : ∀ x ∈ l, 0 ≤ x ∧ x < (n : Int) := by
 unfold belowB at h
 rw [List.all_eq_true] at h
 exact fun x hx => of_decide_eq_true (h x hx)
/-- what a layout that may be says of its routes -/
structure RtOk (L : Lay) (r : Rt) : Prop where
 s0 : 0 ≤ r.sg
 s1 : r.sg < (L.sg.l.length : Int)
 pa : r.pa.l.length ≤ 16
 ov : r.ov.l.length ≤ 16
 po : r.po.l.length ≤ 16
 fl : r.fl.l.length ≤ 16
 pb : belowB L.se.l.length r.pa.l = true
 ob : belowB L.se.l.length r.ov.l = true
 qb : belowB L.po.l.length (r.po.l.map (·.1)) = true
 fb : belowB L.po.l.length (r.fl.l.map (·.1)) = true
theorem mayS_rt {L : Lay} (h : mayS L = true) : ∀ r ∈ L.rt.l, RtOk L r := by
 intro r hr
 unfold mayS rtsFrom at h
 simp only [Bool.and_eq_true] at h
 obtain ⟨_, _, ⟨_, h1⟩, h2⟩ := h
 have a := belowB_mem h1 r.sg (List.mem_map.2 ⟨r, hr, rfl⟩)
 rw [List.all_eq_true] at h2
 have b := h2 r hr
 unfold rtB mayB at b
 simp only [Bool.and_eq_true, decide_eq_true_eq] at b
 obtain ⟨⟨⟨⟨b1, b2⟩, b3⟩, b4⟩, ⟨b5, b6⟩, b7, b8⟩ := b
 exact ⟨a.1, a.2, b1, b2, b5, b7, b3, b4, b6, b8⟩
/-- the first route that is not well-formed; -1: there is none -/
def badS (L : Lay) : Int := ixF (fun r => !formedS L r) 0 L.rt.l
def checkS (L : Lay) : Int × Int := if mayS L then (if 0 ≤ badS L then (50, badS L) else (0, 0)) else (2, 0)
def routeS (L : Lay) (n : Int) : Int := if mayS L then (if n < 0 ∨ (L.rt.l.length : Int) ≤ n then 5 else (match L.rt.l[n.toNat]? with | some r => if formedS L r then 0 else 50 | none => 5)) else 2
theorem cs_no {L : Lay} (h : mayS L = false) : checkS L = (2, 0) := by unfold checkS; rw [h]; rfl
theorem cs_bad {L : Lay} {z : Int} (h : mayS L = true) (hz : badS L = z) (h0 : 0 ≤ z) : checkS L = (50, z) := by unfold checkS; rw [h, hz, if_pos rfl, if_pos h0]
theorem cs_ok {L : Lay} {z : Int} (h : mayS L = true) (hz : badS L = z) (h0 : ¬ 0 ≤ z) : checkS L = (0, 0) := by unfold checkS; rw [h, hz, if_pos rfl, if_neg h0]
theorem rs_no {L : Lay} {n : Int} (h : mayS L = false) : routeS L n = 2 := by unfold routeS; rw [h]; rfl
theorem rs_none {L : Lay} {n : Int} (h : mayS L = true) (h0 : n < 0 ∨ (L.rt.l.length : Int) ≤ n) : routeS L n = 5 := by unfold routeS; rw [h, if_pos rfl, if_pos h0]
theorem rs_at {L : Lay} {k : Nat} {r : Rt} (h : mayS L = true) (hk : L.rt.l[k]? = some r) : routeS L (k : Int) = if formedS L r then 0 else 50 := by
 have h1 := (List.getElem?_eq_some_iff.1 hk).1
 unfold routeS
 rw [h, if_pos rfl, if_neg (by omega), Int.toNat_natCast, hk]
attribute [local irreducible] hasI hasP dupI dupN okPt okPts secOf formedS Sl.v cntI ixF mayS
set_option maxRecDepth 100000 in
set_option maxHeartbeats 2000000 in
theorem check1_is (gl : Nat) (t : TypeId) (fr : Nat × Nat) (L : Lay) (r : Rt) (w : World) (b : Bool) (hb : formedS L r = b) (hg : w.heap[gl]? = some (.cells #[L.se.v, L.po.v, L.sg.v, L.rt.v] t fr)) (hL : LayAt w L) (hr : RtAt w r) (ho : RtOk L r) :
 Calls Try.prog 27 #[.agg #[.string r.nm, .int .i64 r.sg, r.pa.v, r.po.v, r.ov.v, r.fl.v], .pointer (some ⟨gl, 0, none⟩)] w fun e w' => e = .returned (.bool (!b)) ∧ Below w.heap.size w w' := by
 have HF : Hid (∀ W, Below w.heap.size w W → Calls Try.prog 28 #[.agg #[L.se.v, L.po.v, L.sg.v, L.rt.v], .agg #[.string r.nm, .int .i64 r.sg, r.pa.v, r.po.v, r.ov.v, r.fl.v]] W fun e w' => e = .returned (.bool b) ∧ Below W.heap.size W w') :=
  Lib.hid (fun W hW => hb ▸ formed_is L r W (hL.below hW) (hr.below hW) ho.s0 ho.s1 (by have := ho.pa; have := ho.ov; omega) (by have := ho.po; have := ho.fl; omega))
 obtain ⟨m1, hm1⟩ : ∃ n, r.pa.l.length = n := ⟨_, rfl⟩
 obtain ⟨m2, hm2⟩ : ∃ n, r.po.l.length = n := ⟨_, rfl⟩
 obtain ⟨m3, hm3⟩ : ∃ n, r.ov.l.length = n := ⟨_, rfl⟩
 obtain ⟨m4, hm4⟩ : ∃ n, r.fl.l.length = n := ⟨_, rfl⟩
 obtain ⟨n1, hn1⟩ : ∃ n, L.se.l.length = n := ⟨_, rfl⟩
 obtain ⟨n2, hn2⟩ : ∃ n, L.po.l.length = n := ⟨_, rfl⟩
 obtain ⟨n3, hn3⟩ : ∃ n, L.sg.l.length = n := ⟨_, rfl⟩
 obtain ⟨n4, hn4⟩ : ∃ n, L.rt.l.length = n := ⟨_, rfl⟩
 rw [slv hm1, slv hm2, slv hm3, slv hm4, slv hn1, slv hn2, slv hn3, slv hn4] at HF
 rw [slv hn1, slv hn2, slv hn3, slv hn4] at hg
 rw [slv hm1, slv hm2, slv hm3, slv hm4]
 clear hm1 hm2 hm3 hm4 hn1 hn2 hn3 hn4 hL hr ho hb
 have l0 := blk_cell hg 0 _ rfl
 have l1 := blk_cell hg 1 _ rfl
 have l2 := blk_cell hg 2 _ rfl
 have l3 := blk_cell hg 3 _ rfl
 have hlt := blk_lt hg
 clear hg
 go_enter Try.func27, Try.ntmps27
 go_wp2_with fail
 refine (HF.out _ (below1 w _)).mono ?_
 rintro e w1 ⟨rfl, hb1⟩
 have HB := Lib.hid (below_on (below1 w _) hb1)
 clear hb1 l0 l1 l2 l3
 go_wp2_with fail
 go_ret
 exact ⟨rfl, HB.out⟩

set_option maxRecDepth 100000 in
set_option maxHeartbeats 2000000 in
theorem ixf_rt (gl : Nat) (p : Rt → Bool) (x : Option Addr) (m c : Nat) (l : List Rt) (w : World) (hn : l.length = m) (hm : m ≤ 9223372036854775807) (hl : RowAt 6 rtC w x l)
 (hp : ∀ W, Below w.heap.size w W → ∀ r ∈ l, Calls Try.prog 27 #[.agg #[.string r.nm, .int .i64 r.sg, r.pa.v, r.po.v, r.ov.v, r.fl.v], .pointer (some ⟨gl, 0, none⟩)] W fun e w' => e = .returned (.bool (p r)) ∧ Below W.heap.size W w') :
 Calls Try.prog 26 #[.slice x m c, .func (.func 27) #[] #[.pointer (some ⟨gl, 0, none⟩)]] w fun e w' => e = .returned (.int .i64 (ixF p 0 l)) ∧ Below w.heap.size w w' := by
 have HN := Lib.hid hn
 have HP := Lib.hid hp
 have HR := Lib.hid hl
 clear hn hp hl
 go_enter Try.func26, Try.ntmps26
 go_wp2_with fail
 go_loopg [5, 8] m (fun g _ i wr => ∃ k : Nat, k + g = m ∧ i = .int .i64 (k : Int) ∧ ixF p k (l.drop k) = ixF p 0 l ∧ Below w.heap.size w wr)
 case atStart => exact ⟨0, by omega, rfl, rfl, Below.refl _ _⟩
 case round =>
  obtain ⟨k, hk, rfl, hb, hbw⟩ := hrel
  have HB := Lib.hid hb
  have HBW := Lib.hid hbw
  clear hb hbw
  by_cases hlt : k < m
  ·obtain ⟨y, hy⟩ : ∃ y, l[k]? = some y := ⟨_, List.getElem?_eq_getElem (by rw [HN.out]; exact hlt)⟩
   rcases HR.out.below HBW.out with hnil | ⟨b, off, rfl, hc⟩
   ·rw [hnil] at hy; simp at hy
   have z0 := hc k _ hy 0 _ rfl
   have z1 := hc k _ hy 1 _ rfl
   have z2 := hc k _ hy 2 _ rfl
   have z3 := hc k _ hy 3 _ rfl
   have z4 := hc k _ hy 4 _ rfl
   have z5 := hc k _ hy 5 _ rfl
   rw [Nat.add_zero] at z0
   have hd := ixF_drop (p := p) hy
   have d1 : (0 : Int) ≤ k := by omega
   have d2 : (k : Int) < m := by omega
   have e1 : wrap64 ((k : Int) + 1) = (k : Int) + 1 := by unfold wrap64; omega
   have HK := Lib.hid hk
   have hcall := HP.out wr HBW.out y (List.mem_of_getElem? hy)
   obtain ⟨D, hD⟩ : ∃ D, p y = D := ⟨_, rfl⟩
   rw [hD] at hcall hd
   obtain ⟨m1, hm1⟩ : ∃ n, y.pa.l.length = n := ⟨_, rfl⟩
   obtain ⟨m2, hm2⟩ : ∃ n, y.po.l.length = n := ⟨_, rfl⟩
   obtain ⟨m3, hm3⟩ : ∃ n, y.ov.l.length = n := ⟨_, rfl⟩
   obtain ⟨m4, hm4⟩ : ∃ n, y.fl.l.length = n := ⟨_, rfl⟩
   rw [slv hm1, slv hm2, slv hm3, slv hm4] at hcall
   rw [slv hm1] at z2
   rw [slv hm2] at z3
   rw [slv hm3] at z4
   rw [slv hm4] at z5
   have HC := Lib.hid hcall
   clear hc hy hk hcall hD hm1 hm2 hm3 hm4
   cases D with
   | true =>
     have HF : Hid (ixF p 0 l = k) := Lib.hid (HB.out.symm.trans (by rw [hd, if_pos rfl]))
     clear hd
     go_wp2_with fail
     refine HC.out.mono ?_
     rintro e w5 ⟨rfl, hb5⟩
     have HB5 := Lib.hid (below_on HBW.out hb5)
     clear hb5
     go_wp2_with fail
     go_ret
     exact ⟨by rw [HF.out]; rfl, HB5.out⟩
   | false =>
     have HT : Hid (ixF p (k + 1) (l.drop (k + 1)) = ixF p 0 l) := Lib.hid (Eq.trans (by rw [hd, if_neg (by decide)]) HB.out)
     clear hd
     go_wp2_with fail
     refine HC.out.mono ?_
     rintro e w5 ⟨rfl, hb5⟩
     have HB5 := Lib.hid (below_on HBW.out hb5)
     clear hb5
     go_wp2_with fail
     go_roundg (m - (k + 1))
     case rel => exact ⟨k + 1, by have := HK.out; omega, by go_num, HT.out, HB5.out⟩
     case measure => have := HK.out; omega
  ·have hkm : m = k := by omega
   subst hkm
   have HF : Hid (ixF p 0 l = -1) := Lib.hid (HB.out.symm.trans (ixF_end HN.out))
   go_wp2_with fail
   go_ret
   exact ⟨by rw [HF.out]; rfl, HBW.out⟩

set_option maxRecDepth 100000 in
set_option maxHeartbeats 2000000 in
theorem check_is (L : Lay) (w : World) (hL : LayAt w L) :
 Calls Try.prog 13 #[.agg #[L.se.v, L.po.v, L.sg.v, L.rt.v]] w fun e w' => e = .returned (.tuple #[.int .i64 (checkS L).1, .int .i64 (checkS L).2]) ∧ Below w.heap.size w w' := by
 have HMAY : Hid (∀ W, Below w.heap.size w W → Calls Try.prog 25 #[.agg #[L.se.v, L.po.v, L.sg.v, L.rt.v]] W fun e w' => e = .returned (.bool (mayS L)) ∧ Below W.heap.size W w') := Lib.hid (fun W hW => may_lay L W (hL.below hW))
 have HLW := Lib.hid hL
 obtain ⟨n1, hn1⟩ : ∃ n, L.se.l.length = n := ⟨_, rfl⟩
 obtain ⟨n2, hn2⟩ : ∃ n, L.po.l.length = n := ⟨_, rfl⟩
 obtain ⟨n3, hn3⟩ : ∃ n, L.sg.l.length = n := ⟨_, rfl⟩
 obtain ⟨n4, hn4⟩ : ∃ n, L.rt.l.length = n := ⟨_, rfl⟩
 have hm4 : n4 ≤ 9223372036854775807 := by rw [← hn4]; exact hL.rt.lenM
 have HN := Lib.hid (And.intro (slv hn1) (And.intro (slv hn2) (And.intro (slv hn3) (And.intro (slv hn4) hm4))))
 have HN4 := Lib.hid hn4
 rw [slv hn1, slv hn2, slv hn3, slv hn4] at HMAY ⊢
 clear hn1 hn2 hn3 hn4 hm4 hL
 obtain ⟨gl, hgl⟩ : ∃ g, g = w.heap.size := ⟨_, rfl⟩
 have HGL := Lib.hid hgl
 clear hgl
 obtain ⟨B, hB⟩ : ∃ B, mayS L = B := ⟨_, rfl⟩
 rw [hB] at HMAY
 have HBB := Lib.hid hB
 clear hB
 go_enter Try.func13, Try.ntmps13
 go_wp2_with fail
 refine (HMAY.out _ (below1 w _)).mono ?_
 rintro e w1 ⟨rfl, hb1⟩
 have hq := blk_keep hb1 (alloc1 w (.cells #[.slice L.se.a n1 L.se.c, .slice L.po.a n2 L.po.c, .slice L.sg.a n3 L.sg.c, .slice L.rt.a n4 L.rt.c] 27) (Below.refl _ _))
 have hbw := below_on (below1 w _) hb1
 rw [← HGL.out] at hq ⊢
 have HB1 := Lib.hid hbw
 clear hb1 hbw
 cases B with
 | false =>
   have HC := Lib.hid (cs_no HBB.out)
   clear hq
   go_wp2_with fail
   go_ret2
   exact ⟨by rw [HC.out]; rfl, HB1.out⟩
 | true =>
   have l3 := blk_cell hq 3 _ rfl
   obtain ⟨z, hz⟩ : ∃ z, badS L = z := ⟨_, rfl⟩
   have HZ := Lib.hid hz
   have HIX : Hid (Calls Try.prog 26 #[.slice L.rt.a n4 L.rt.c, .func (.func 27) #[] #[.pointer (some ⟨gl, 0, none⟩)]] w1 fun e w' => e = .returned (.int .i64 z) ∧ Below w1.heap.size w1 w') := by
    have hLw := HLW.out.below HB1.out
    have hok := mayS_rt HBB.out
    refine Lib.hid (hz ▸ ixf_rt gl (fun r => !formedS L r) _ _ _ L.rt.l w1 HN4.out HN.out.2.2.2.2 hLw.rt.row (fun W hW r hr => check1_is gl 27 (0, 0) L r W _ rfl ?_ (hLw.below hW) ((hLw.rn r hr).below hW) (hok r hr)))
    obtain ⟨x1, x2, x3, x4, _⟩ := HN.out
    rw [x1, x2, x3, x4]
    exact blk_keep hW hq
   clear hq hz
   go_wp2_with fail
   refine HIX.out.mono ?_
   rintro e w2 ⟨rfl, hb2⟩
   have HB2 := Lib.hid (below_on HB1.out hb2)
   clear hb2 l3
   by_cases hz0 : 0 ≤ z
   ·have HC := Lib.hid (cs_bad HBB.out HZ.out hz0)
    go_wp2_with fail
    go_ret2
    exact ⟨by rw [HC.out]; rfl, HB2.out⟩
   ·have HC := Lib.hid (cs_ok HBB.out HZ.out hz0)
    go_wp2_with fail
    go_ret2
    exact ⟨by rw [HC.out]; rfl, HB2.out⟩
end Go.Proofs.Ytpohoannggdbjaa
namespace Go.Proofs.Ytpohoannggdbjaa
open Go.RowKit
theorem allocs_below : ∀ (os : List Obj) (w : World), Below w.heap.size w (os.foldl World.alloc w) := by
 intro os
 induction os with
 | nil => exact fun w => Below.refl _ _
 | cons o os ih => exact fun w => below_on (below1 w o) (ih (w.alloc o))
theorem allocs_at : ∀ (os : List Obj) (w : World) (i : Nat) (o : Obj), os[i]? = some o → (os.foldl World.alloc w).heap[w.heap.size + i]? = some o := by
 intro os
 induction os with
 | nil => intro w i o h; simp at h
 | cons p os ih =>
   intro w i o h
   cases i with
   | zero =>
     simp at h
     subst h
     exact alloc1 w p (allocs_below os (w.alloc p))
   | succ i =>
     have := ih (w.alloc p) i o (by simpa using h)
     have e : (w.alloc p).heap.size = w.heap.size + 1 := by simp
     rw [e, show w.heap.size + 1 + i = w.heap.size + (i + 1) by omega] at this
     exact this
theorem row_blk {α : Type} {sz : Nat} {f : α → List Value} (hf : ∀ c, (f c).length = sz) {w : World} {g : Nat} {cs : Array Value} {t : TypeId} {fr : Nat × Nat} {l : List α} (h : w.heap[g]? = some (.cells cs t fr)) (hcs : cs.toList = l.flatMap f) : RowAt sz f w (some ⟨g, 0, none⟩) l := by
 refine .inr ⟨g, 0, rfl, fun i c hi j v hv => ?_⟩
 rw [Nat.zero_add]
 refine blk_cell h _ _ ?_
 rw [← Array.getElem?_toList, hcs]
 exact flat_get hf l i c j v hi hv
theorem sl_blk {α : Type} {sz : Nat} {f : α → List Value} (hf : ∀ c, (f c).length = sz) {w : World} {g n : Nat} {cs : Array Value} {t : TypeId} {fr : Nat × Nat} {l : List α} (h : w.heap[g]? = some (.cells cs t fr)) (hcs : cs.toList = l.flatMap f) (hn : l.length = n) (hm : n ≤ maxLen) : SlAt sz f w ⟨some ⟨g, 0, none⟩, n, l⟩ :=
 ⟨row_blk hf h hcs, by dsimp only; omega, hm, fun h => by cases h⟩
theorem pt_len (c : BA × Int) : (ptC c).length = 2 := rfl
theorem rt_len (c : Rt) : (rtC c).length = 6 := rfl
theorem sl_none {α : Type} {sz : Nat} {f : α → List Value} {w : World} : SlAt sz f w ⟨none, 0, []⟩ := ⟨.inl rfl, Nat.le_refl _, Nat.zero_le _, fun _ => rfl⟩
theorem name_last {P : World → Prop} {os : List Obj} {w0 w : World} (hw : os.foldl World.alloc w0 = w) (h : ∀ W : World, (∀ i o, os[i]? = some o → W.heap[w0.heap.size + i]? = some o) → Below w0.heap.size w0 W → P W) : P w :=
 h w (fun i o hi => hw ▸ allocs_at os w0 i o hi) (hw ▸ allocs_below os w0)
theorem name_any {P : World → Prop} {w : World} (h : ∀ W, W = w → P W) : P w := h w rfl
theorem name_K {K : Act → World → Prop} {a : Act} {w : World} (h : ∀ W, W = w → K a W) : K a w := h w rfl
theorem below_undrew {w w' : World} (h : Below w.drew.heap.size w.drew w') : Below w.heap.size w w' := ⟨h.os, h.tape, h.output, h.size, h.block⟩
end Go.Proofs.Ytpohoannggdbjaa
namespace Go.Proofs.Ytpohoannggdbjaa
open Go.RowKit
set_option maxRecDepth 100000

/-- a number that grows with each element, as long as it is t at most -/
def wtF {α : Type} (t : Int) (f : Int → α → Int) : Int → List α → Int
 | z, [] => z
 | z, y :: l => if z ≤ t then wtF t f (f z y) l else z
theorem wtF_drop {α : Type} {t : Int} {f : Int → α → Int} {z : Int} {l : List α} {y : α} {k : Nat} (h : l[k]? = some y) (hz : z ≤ t) : wtF t f z (l.drop k) = wtF t f (f z y) (l.drop (k + 1)) := by
 have hk : k < l.length := (List.getElem?_eq_some_iff.1 h).1
 rw [List.drop_eq_getElem_cons hk, (List.getElem?_eq_some_iff.1 h).2]
 show (if z ≤ t then _ else _) = _
 rw [if_pos hz]
theorem wtF_stop {α : Type} {t : Int} {f : Int → α → Int} {z : Int} {l : List α} {k n : Nat} (hn : l.length = n) (h : n ≤ k ∨ t < z) : wtF t f z (l.drop k) = z := by
 cases hd : l.drop k with
 | nil => rfl
 | cons y m =>
   rcases h with h | h
   ·rw [List.drop_eq_nil_of_le (by omega)] at hd; cases hd
   ·show (if z ≤ t then _ else _) = _
    rw [if_neg (by omega)]
def wtS (z : Int) (s : BA) : Int := wrap64 (wrap64 (z + 1) + (s.size : Int))
def wtR (t z : Int) (r : Rt) : Int :=
 let y := wrap64 (wrap64 (wrap64 (wrap64 (z + 1) + (r.nm.size : Int)) + (r.pa.l.length : Int)) + (r.po.l.length : Int))
 if y ≤ t then wrap64 (wrap64 (y + (r.ov.l.length : Int)) + (r.fl.l.length : Int)) else y
def weightS (t : Int) (L : Lay) : Int := wtF t (wtR t) (wtF t (fun z (p : BA × Int) => wtS z p.1) (wtF t (fun z (p : BA × Int) => wtS z p.1) (wtF t wtS 0 L.se.l) L.po.l) L.sg.l) L.rt.l
theorem wtS_is (z : Int) (s : BA) : wrap64 (wrap64 (z + 1) + (s.size : Int)) = wtS z s := rfl
theorem wtR_le {t z : Int} {r : Rt} {m1 m2 m3 m4 : Nat} (h : r.pa.l.length = m1 ∧ r.po.l.length = m2 ∧ r.ov.l.length = m3 ∧ r.fl.l.length = m4) (q : wrap64 (wrap64 (wrap64 (wrap64 (z + 1) + (r.nm.size : Int)) + (m1 : Int)) + (m2 : Int)) ≤ t) :
 wrap64 (wrap64 (wrap64 (wrap64 (wrap64 (wrap64 (z + 1) + (r.nm.size : Int)) + (m1 : Int)) + (m2 : Int)) + (m3 : Int)) + (m4 : Int)) = wtR t z r := by
 obtain ⟨rfl, rfl, rfl, rfl⟩ := h
 unfold wtR
 rw [if_pos q]
theorem wtR_gt {t z : Int} {r : Rt} {m1 m2 m3 m4 : Nat} (h : r.pa.l.length = m1 ∧ r.po.l.length = m2 ∧ r.ov.l.length = m3 ∧ r.fl.l.length = m4) (q : ¬ wrap64 (wrap64 (wrap64 (wrap64 (z + 1) + (r.nm.size : Int)) + (m1 : Int)) + (m2 : Int)) ≤ t) :
 wrap64 (wrap64 (wrap64 (wrap64 (z + 1) + (r.nm.size : Int)) + (m1 : Int)) + (m2 : Int)) = wtR t z r := by
 obtain ⟨rfl, rfl, rfl, rfl⟩ := h
 unfold wtR
 rw [if_neg q]
attribute [local irreducible] Sl.v wtF wtR wtS
set_option maxRecDepth 100000 in
set_option maxHeartbeats 4000000 in
theorem weight_is (t : Int) (L : Lay) (w : World) (hL : LayAt w L) :
 Calls Try.prog 9 #[.agg #[L.se.v, L.po.v, L.sg.v, L.rt.v], .int .i64 t] w fun e w' => e = .returned (.int .i64 (weightS t L)) ∧ Below w.heap.size w w' := by
 have HR1 := Lib.hid hL.se.row
 have HR2 := Lib.hid hL.po.row
 have HR3 := Lib.hid hL.sg.row
 have HR4 := Lib.hid hL.rt.row
 obtain ⟨n1, hn1⟩ : ∃ n, L.se.l.length = n := ⟨_, rfl⟩
 obtain ⟨n2, hn2⟩ : ∃ n, L.po.l.length = n := ⟨_, rfl⟩
 obtain ⟨n3, hn3⟩ : ∃ n, L.sg.l.length = n := ⟨_, rfl⟩
 obtain ⟨n4, hn4⟩ : ∃ n, L.rt.l.length = n := ⟨_, rfl⟩
 have HM1 : Hid (n1 ≤ 9223372036854775807) := Lib.hid (by rw [← hn1]; exact hL.se.lenM)
 have HM2 : Hid (n2 ≤ 9223372036854775807) := Lib.hid (by rw [← hn2]; exact hL.po.lenM)
 have HM3 : Hid (n3 ≤ 9223372036854775807) := Lib.hid (by rw [← hn3]; exact hL.sg.lenM)
 have HM4 : Hid (n4 ≤ 9223372036854775807) := Lib.hid (by rw [← hn4]; exact hL.rt.lenM)
 have HN1 := Lib.hid hn1
 have HN2 := Lib.hid hn2
 have HN3 := Lib.hid hn3
 have HN4 := Lib.hid hn4
 rw [slv hn1, slv hn2, slv hn3, slv hn4]
 clear hn1 hn2 hn3 hn4 hL
 obtain ⟨W1, hW1⟩ : ∃ W, W = wtF t wtS 0 L.se.l := ⟨_, rfl⟩
 obtain ⟨W2, hW2⟩ : ∃ W, W = wtF t (fun z (p : BA × Int) => wtS z p.1) W1 L.po.l := ⟨_, rfl⟩
 obtain ⟨W3, hW3⟩ : ∃ W, W = wtF t (fun z (p : BA × Int) => wtS z p.1) W2 L.sg.l := ⟨_, rfl⟩
 obtain ⟨W4, hW4⟩ : ∃ W, W = wtF t (wtR t) W3 L.rt.l := ⟨_, rfl⟩
 have HW : Hid (weightS t L = W4) := Lib.hid (by rw [hW4, hW3, hW2, hW1]; rfl)
 have HW1 := Lib.hid hW1.symm
 have HW2 := Lib.hid hW2.symm
 have HW3 := Lib.hid hW3.symm
 have HW4 := Lib.hid hW4.symm
 clear hW1 hW2 hW3 hW4
 obtain ⟨gl, hgl⟩ : ∃ g, g = w.heap.size := ⟨_, rfl⟩
 have HGL := Lib.hid hgl
 clear hgl
 go_enter Try.func9, Try.ntmps9
 go_wp2_with fail
 refine name_world05 ?_
 intro W0 hW0
 have hq : W0.heap[gl]? = some (.cells #[.slice L.se.a n1 L.se.c, .slice L.po.a n2 L.po.c, .slice L.sg.a n3 L.sg.c, .slice L.rt.a n4 L.rt.c] 27) := by rw [hW0, HGL.out]; exact alloc1 w _ (Below.refl _ _)
 have hb0 : Below w.heap.size w W0 := by rw [hW0]; exact below1 w _
 rw [← HGL.out]
 have HQ := Lib.hid hq
 have HB := Lib.hid hb0
 clear hq hb0 hW0
 skip
 go_loopg [5, 6] n1 (fun g nn i wr => ∃ (k : Nat) (z : Int), k + g = n1 ∧ nn = .int .i64 z ∧ i = .int .i64 (k : Int) ∧ wtF t wtS z (L.se.l.drop k) = W1 ∧ wr.heap[gl]? = some (.cells #[.slice L.se.a n1 L.se.c, .slice L.po.a n2 L.po.c, .slice L.sg.a n3 L.sg.c, .slice L.rt.a n4 L.rt.c] 27) ∧ Below w.heap.size w wr)
 case atStart => exact ⟨0, 0, by omega, rfl, rfl, HW1.out, HQ.out, HB.out⟩
 case round =>
  obtain ⟨k, z, hk, rfl, rfl, hst, hq, hbw⟩ := hrel
  clear HQ HB
  have HST := Lib.hid hst
  have HQ := Lib.hid hq
  have HB := Lib.hid hbw
  have l1 := blk_cell hq 0 _ rfl
  have hgz := blk_lt hq
  have HGZ := Lib.hid hgz
  have HK := Lib.hid hk
  clear hst hq hbw hk hgz
  have e0 : k < n1 → wrap64 ((k : Int) + 1) = (k : Int) + 1 := by intro h; have := HM1.out; unfold wrap64; omega
  have HE := Lib.hid e0
  clear e0
  go_upto_region 3 with fail
  go_cut [15, 16, 17, 18, 19, 20] (fun _s15 _s16 _s17 _s18 _s19 s20 wx => ∃ D : Bool, s20 = .bool D ∧ wr = wx ∧ Hid (D = true → k < n1 ∧ z ≤ t) ∧ Hid (D = false → n1 ≤ k ∨ t < z))
  case first =>
   by_cases hlt : k < n1
   ·have d1 : (k : Int) < n1 := by omega
    by_cases hz : z ≤ t
    ·go_wp2_with fail
     go_meet
     exact ⟨true, rfl, rfl, Lib.hid (fun _ => ⟨hlt, hz⟩), Lib.hid (fun h => absurd h (by decide))⟩
    ·go_wp2_with fail
     go_meet
     exact ⟨false, rfl, rfl, Lib.hid (fun h => absurd h (by decide)), Lib.hid (fun _ => .inr (by omega))⟩
   ·have d1 : ¬ (k : Int) < n1 := by omega
    go_wp2_with fail
    go_meet
    exact ⟨false, rfl, rfl, Lib.hid (fun h => absurd h (by decide)), Lib.hid (fun _ => .inl (Nat.le_of_not_lt hlt))⟩
  case rest =>
   obtain ⟨D, rfl, hwx, hD1, hD2⟩ := hcut
   subst hwx
   cases D with
   | true =>
     obtain ⟨hlt, hz⟩ := hD1.out rfl
     clear hD1 hD2
     have e0 := HE.out hlt
     clear HE
     obtain ⟨y, hy⟩ : ∃ y, L.se.l[k]? = some y := ⟨_, List.getElem?_eq_getElem (by rw [HN1.out]; exact hlt)⟩
     have hst := HST.out
     rw [wtF_drop hy hz] at hst
     clear HST
     have hz2 := hz
     clear hz
     rcases HR1.out.below HB.out with hnil | ⟨xb, off, hxb, hc⟩
     ·rw [hnil] at hy; simp at hy
     have z0 := hc k _ hy 0 _ rfl
     rw [Nat.add_zero, Nat.mul_one] at z0
     have d1 : (0 : Int) ≤ k := by omega
     have d2 : (k : Int) < n1 := by omega
     have HX := Lib.hid hst
     have HLT := Lib.hid hlt
     clear hc hy hst hlt hz2
     obtain ⟨x, hx⟩ : ∃ x, L.se.a = x := ⟨_, rfl⟩
     have HXX := Lib.hid hx
     rw [hx] at l1 HQ hxb ⊢
     subst hxb
     clear hx
     go_wp2_with fail
     rw [← HXX.out]
     go_roundg (n1 - (k + 1))
     case rel => exact ⟨k + 1, wrap64 (wrap64 (z + 1) + ((y.size : Nat) : Int)), by have := HK.out; have := HLT.out; omega, rfl, by go_num, by rw [wtS_is]; exact HX.out, by rw [HXX.out]; exact HQ.out, HB.out⟩
     case measure => have := HK.out; have := HLT.out; omega
   | false =>
     have h := wtF_stop (f := wtS) HN1.out (hD2.out rfl)
     rw [HST.out] at h
     subst h
     clear hD1 hD2 HST HE l1 HK HGZ
     go_wp2_with fail
     go_loopg [5, 7] n2 (fun g nn i wr => ∃ (k : Nat) (z : Int), k + g = n2 ∧ nn = .int .i64 z ∧ i = .int .i64 (k : Int) ∧ wtF t (fun z (p : BA × Int) => wtS z p.1) z (L.po.l.drop k) = W2 ∧ wr.heap[gl]? = some (.cells #[.slice L.se.a n1 L.se.c, .slice L.po.a n2 L.po.c, .slice L.sg.a n3 L.sg.c, .slice L.rt.a n4 L.rt.c] 27) ∧ Below w.heap.size w wr)
     case atStart => exact ⟨0, W1, by omega, rfl, rfl, HW2.out, HQ.out, HB.out⟩
     case round =>
      obtain ⟨k, z, hk, rfl, rfl, hst, hq, hbw⟩ := hrel
      clear HQ HB
      have HST := Lib.hid hst
      have HQ := Lib.hid hq
      have HB := Lib.hid hbw
      have l2 := blk_cell hq 1 _ rfl
      have hgz := blk_lt hq
      have HGZ := Lib.hid hgz
      have HK := Lib.hid hk
      clear hst hq hbw hk hgz
      have e0 : k < n2 → wrap64 ((k : Int) + 1) = (k : Int) + 1 := by intro h; have := HM2.out; unfold wrap64; omega
      have HE := Lib.hid e0
      clear e0
      go_upto_region 7 with fail
      go_cut [36, 37, 38, 39, 40, 41] (fun _s36 _s37 _s38 _s39 _s40 s41 wx => ∃ D : Bool, s41 = .bool D ∧ wr = wx ∧ Hid (D = true → k < n2 ∧ z ≤ t) ∧ Hid (D = false → n2 ≤ k ∨ t < z))
      case first =>
       by_cases hlt : k < n2
       ·have d1 : (k : Int) < n2 := by omega
        by_cases hz : z ≤ t
        ·go_wp2_with fail
         go_meet
         exact ⟨true, rfl, rfl, Lib.hid (fun _ => ⟨hlt, hz⟩), Lib.hid (fun h => absurd h (by decide))⟩
        ·go_wp2_with fail
         go_meet
         exact ⟨false, rfl, rfl, Lib.hid (fun h => absurd h (by decide)), Lib.hid (fun _ => .inr (by omega))⟩
       ·have d1 : ¬ (k : Int) < n2 := by omega
        go_wp2_with fail
        go_meet
        exact ⟨false, rfl, rfl, Lib.hid (fun h => absurd h (by decide)), Lib.hid (fun _ => .inl (Nat.le_of_not_lt hlt))⟩
      case rest =>
       obtain ⟨D, rfl, hwx, hD1, hD2⟩ := hcut
       subst hwx
       cases D with
       | true =>
         obtain ⟨hlt, hz⟩ := hD1.out rfl
         clear hD1 hD2
         have e0 := HE.out hlt
         clear HE
         obtain ⟨y, hy⟩ : ∃ y, L.po.l[k]? = some y := ⟨_, List.getElem?_eq_getElem (by rw [HN2.out]; exact hlt)⟩
         have hst := HST.out
         rw [wtF_drop hy hz] at hst
         clear HST
         have hz2 := hz
         clear hz
         rcases HR2.out.below HB.out with hnil | ⟨xb, off, hxb, hc⟩
         ·rw [hnil] at hy; simp at hy
         have z0 := hc k _ hy 0 _ rfl
         rw [Nat.add_zero] at z0
         have d1 : (0 : Int) ≤ k := by omega
         have d2 : (k : Int) < n2 := by omega
         have HX := Lib.hid hst
         have HLT := Lib.hid hlt
         clear hc hy hst hlt hz2
         obtain ⟨x, hx⟩ : ∃ x, L.po.a = x := ⟨_, rfl⟩
         have HXX := Lib.hid hx
         rw [hx] at l2 HQ hxb ⊢
         subst hxb
         clear hx
         go_wp2_with fail
         rw [← HXX.out]
         go_roundg (n2 - (k + 1))
         case rel => exact ⟨k + 1, wrap64 (wrap64 (z + 1) + ((y.1.size : Nat) : Int)), by have := HK.out; have := HLT.out; omega, rfl, by go_num, by rw [wtS_is]; exact HX.out, by rw [HXX.out]; exact HQ.out, HB.out⟩
         case measure => have := HK.out; have := HLT.out; omega
       | false =>
         have h := wtF_stop (f := (fun z (p : BA × Int) => wtS z p.1)) HN2.out (hD2.out rfl)
         rw [HST.out] at h
         subst h
         clear hD1 hD2 HST HE l2 HK HGZ
         go_wp2_with fail
         go_loopg [5, 8] n3 (fun g nn i wr => ∃ (k : Nat) (z : Int), k + g = n3 ∧ nn = .int .i64 z ∧ i = .int .i64 (k : Int) ∧ wtF t (fun z (p : BA × Int) => wtS z p.1) z (L.sg.l.drop k) = W3 ∧ wr.heap[gl]? = some (.cells #[.slice L.se.a n1 L.se.c, .slice L.po.a n2 L.po.c, .slice L.sg.a n3 L.sg.c, .slice L.rt.a n4 L.rt.c] 27) ∧ Below w.heap.size w wr)
         case atStart => exact ⟨0, W2, by omega, rfl, rfl, HW3.out, HQ.out, HB.out⟩
         case round =>
          obtain ⟨k, z, hk, rfl, rfl, hst, hq, hbw⟩ := hrel
          clear HQ HB
          have HST := Lib.hid hst
          have HQ := Lib.hid hq
          have HB := Lib.hid hbw
          have l3 := blk_cell hq 2 _ rfl
          have hgz := blk_lt hq
          have HGZ := Lib.hid hgz
          have HK := Lib.hid hk
          clear hst hq hbw hk hgz
          have e0 : k < n3 → wrap64 ((k : Int) + 1) = (k : Int) + 1 := by intro h; have := HM3.out; unfold wrap64; omega
          have HE := Lib.hid e0
          clear e0
          go_upto_region 11 with fail
          go_cut [58, 59, 60, 61, 62, 63] (fun _s58 _s59 _s60 _s61 _s62 s63 wx => ∃ D : Bool, s63 = .bool D ∧ wr = wx ∧ Hid (D = true → k < n3 ∧ z ≤ t) ∧ Hid (D = false → n3 ≤ k ∨ t < z))
          case first =>
           by_cases hlt : k < n3
           ·have d1 : (k : Int) < n3 := by omega
            by_cases hz : z ≤ t
            ·go_wp2_with fail
             go_meet
             exact ⟨true, rfl, rfl, Lib.hid (fun _ => ⟨hlt, hz⟩), Lib.hid (fun h => absurd h (by decide))⟩
            ·go_wp2_with fail
             go_meet
             exact ⟨false, rfl, rfl, Lib.hid (fun h => absurd h (by decide)), Lib.hid (fun _ => .inr (by omega))⟩
           ·have d1 : ¬ (k : Int) < n3 := by omega
            go_wp2_with fail
            go_meet
            exact ⟨false, rfl, rfl, Lib.hid (fun h => absurd h (by decide)), Lib.hid (fun _ => .inl (Nat.le_of_not_lt hlt))⟩
          case rest =>
           obtain ⟨D, rfl, hwx, hD1, hD2⟩ := hcut
           subst hwx
           cases D with
           | true =>
             obtain ⟨hlt, hz⟩ := hD1.out rfl
             clear hD1 hD2
             have e0 := HE.out hlt
             clear HE
             obtain ⟨y, hy⟩ : ∃ y, L.sg.l[k]? = some y := ⟨_, List.getElem?_eq_getElem (by rw [HN3.out]; exact hlt)⟩
             have hst := HST.out
             rw [wtF_drop hy hz] at hst
             clear HST
             have hz2 := hz
             clear hz
             rcases HR3.out.below HB.out with hnil | ⟨xb, off, hxb, hc⟩
             ·rw [hnil] at hy; simp at hy
             have z0 := hc k _ hy 0 _ rfl
             rw [Nat.add_zero] at z0
             have d1 : (0 : Int) ≤ k := by omega
             have d2 : (k : Int) < n3 := by omega
             have HX := Lib.hid hst
             have HLT := Lib.hid hlt
             clear hc hy hst hlt hz2
             obtain ⟨x, hx⟩ : ∃ x, L.sg.a = x := ⟨_, rfl⟩
             have HXX := Lib.hid hx
             rw [hx] at l3 HQ hxb ⊢
             subst hxb
             clear hx
             go_wp2_with fail
             rw [← HXX.out]
             go_roundg (n3 - (k + 1))
             case rel => exact ⟨k + 1, wrap64 (wrap64 (z + 1) + ((y.1.size : Nat) : Int)), by have := HK.out; have := HLT.out; omega, rfl, by go_num, by rw [wtS_is]; exact HX.out, by rw [HXX.out]; exact HQ.out, HB.out⟩
             case measure => have := HK.out; have := HLT.out; omega
           | false =>
             have h := wtF_stop (f := (fun z (p : BA × Int) => wtS z p.1)) HN3.out (hD2.out rfl)
             rw [HST.out] at h
             subst h
             clear hD1 hD2 HST HE l3 HK HGZ
             go_wp2_with fail
             go_loopg [5, 9, 10] n4 (fun g nn i _ wr => ∃ (k : Nat) (z : Int), k + g = n4 ∧ nn = .int .i64 z ∧ i = .int .i64 (k : Int) ∧ wtF t (wtR t) z (L.rt.l.drop k) = W4 ∧ wr.heap[gl]? = some (.cells #[.slice L.se.a n1 L.se.c, .slice L.po.a n2 L.po.c, .slice L.sg.a n3 L.sg.c, .slice L.rt.a n4 L.rt.c] 27) ∧ Below w.heap.size w wr)
             case atStart => exact ⟨0, W3, by omega, rfl, rfl, HW4.out, HQ.out, HB.out⟩
             case round =>
              obtain ⟨k, z, hk, rfl, rfl, hst, hq, hbw⟩ := hrel
              clear HQ HB
              have HST := Lib.hid hst
              have HQ := Lib.hid hq
              have HB := Lib.hid hbw
              have l4 := blk_cell hq 3 _ rfl
              have hgz := blk_lt hq
              have HGZ := Lib.hid hgz
              have HK := Lib.hid hk
              clear hst hq hbw hk hgz
              have e0 : k < n4 → wrap64 ((k : Int) + 1) = (k : Int) + 1 := by intro h; have := HM4.out; unfold wrap64; omega
              have HE := Lib.hid e0
              clear e0
              go_upto_region 15 with fail
              go_cut [80, 81, 82, 83, 84, 85] (fun _s80 _s81 _s82 _s83 _s84 s85 wx => ∃ D : Bool, s85 = .bool D ∧ wr = wx ∧ Hid (D = true → k < n4 ∧ z ≤ t) ∧ Hid (D = false → n4 ≤ k ∨ t < z))
              case first =>
               by_cases hlt : k < n4
               ·have d1 : (k : Int) < n4 := by omega
                by_cases hz : z ≤ t
                ·go_wp2_with fail
                 go_meet
                 exact ⟨true, rfl, rfl, Lib.hid (fun _ => ⟨hlt, hz⟩), Lib.hid (fun h => absurd h (by decide))⟩
                ·go_wp2_with fail
                 go_meet
                 exact ⟨false, rfl, rfl, Lib.hid (fun h => absurd h (by decide)), Lib.hid (fun _ => .inr (by omega))⟩
               ·have d1 : ¬ (k : Int) < n4 := by omega
                go_wp2_with fail
                go_meet
                exact ⟨false, rfl, rfl, Lib.hid (fun h => absurd h (by decide)), Lib.hid (fun _ => .inl (Nat.le_of_not_lt hlt))⟩
              case rest =>
               obtain ⟨D, rfl, hwx, hD1, hD2⟩ := hcut
               subst hwx
               cases D with
               | true =>
                 obtain ⟨hlt, hz⟩ := hD1.out rfl
                 clear hD1 hD2
                 have e0 := HE.out hlt
                 clear HE
                 obtain ⟨y, hy⟩ : ∃ y, L.rt.l[k]? = some y := ⟨_, List.getElem?_eq_getElem (by rw [HN4.out]; exact hlt)⟩
                 have hst := HST.out
                 rw [wtF_drop hy hz] at hst
                 clear HST
                 have hz2 := hz
                 clear hz
                 rcases HR4.out.below HB.out with hnil | ⟨xb, off, hxb, hc⟩
                 ·rw [hnil] at hy; simp at hy
                 have z0 := hc k _ hy 0 _ rfl
                 have z1 := hc k _ hy 1 _ rfl
                 have z2 := hc k _ hy 2 _ rfl
                 have z3 := hc k _ hy 3 _ rfl
                 have z4 := hc k _ hy 4 _ rfl
                 have z5 := hc k _ hy 5 _ rfl
                 rw [Nat.add_zero] at z0
                 obtain ⟨m1, hm1⟩ : ∃ n, y.pa.l.length = n := ⟨_, rfl⟩
                 obtain ⟨m2, hm2⟩ : ∃ n, y.po.l.length = n := ⟨_, rfl⟩
                 obtain ⟨m3, hm3⟩ : ∃ n, y.ov.l.length = n := ⟨_, rfl⟩
                 obtain ⟨m4, hm4⟩ : ∃ n, y.fl.l.length = n := ⟨_, rfl⟩
                 rw [slv hm1] at z2
                 rw [slv hm2] at z3
                 rw [slv hm3] at z4
                 rw [slv hm4] at z5
                 have HMM := Lib.hid (And.intro hm1 (And.intro hm2 (And.intro hm3 hm4)))
                 clear hm1 hm2 hm3 hm4
                 have d1 : (0 : Int) ≤ k := by omega
                 have d2 : (k : Int) < n4 := by omega
                 have HX := Lib.hid hst
                 have HLT := Lib.hid hlt
                 clear hc hy hst hlt hz2
                 obtain ⟨x, hx⟩ : ∃ x, L.rt.a = x := ⟨_, rfl⟩
                 have HXX := Lib.hid hx
                 rw [hx] at l4 HQ hxb ⊢
                 subst hxb
                 clear hx
                 by_cases hv : wrap64 (wrap64 (wrap64 (wrap64 (z + 1) + (y.nm.size : Int)) + (m1 : Int)) + (m2 : Int)) ≤ t
                 ·have HV := Lib.hid hv
                  go_wp2_with fail
                  rw [← HXX.out]
                  go_roundg (n4 - (k + 1))
                  case rel => exact ⟨k + 1, wrap64 (wrap64 (wrap64 (wrap64 (wrap64 (wrap64 (z + 1) + (y.nm.size : Int)) + (m1 : Int)) + (m2 : Int)) + (m3 : Int)) + (m4 : Int)), by have := HK.out; have := HLT.out; omega, rfl, by go_num, by rw [wtR_le (t := t) (z := z) HMM.out (by have := HV.out; omega)]; exact HX.out, by rw [HXX.out]; exact blk_keep (below1 wr _) HQ.out, below_on HB.out (below1 wr _)⟩
                  case measure => have := HK.out; have := HLT.out; omega
                 ·have HV := Lib.hid hv
                  go_wp2_with fail
                  rw [← HXX.out]
                  go_roundg (n4 - (k + 1))
                  case rel => exact ⟨k + 1, wrap64 (wrap64 (wrap64 (wrap64 (z + 1) + (y.nm.size : Int)) + (m1 : Int)) + (m2 : Int)), by have := HK.out; have := HLT.out; omega, rfl, by go_num, by rw [wtR_gt (t := t) (z := z) HMM.out (by have := HV.out; omega)]; exact HX.out, by rw [HXX.out]; exact blk_keep (below1 wr _) HQ.out, below_on HB.out (below1 wr _)⟩
                  case measure => have := HK.out; have := HLT.out; omega
               | false =>
                 have h := wtF_stop (f := (wtR t)) HN4.out (hD2.out rfl)
                 rw [HST.out] at h
                 subst h
                 clear hD1 hD2 HST HE l4 HK HGZ
                 go_wp2_with fail
                 go_ret
                 exact ⟨by rw [HW.out]; rfl, HB.out⟩
end Go.Proofs.Ytpohoannggdbjaa
namespace Go.Proofs.Ytpohoannggdbjaa
open Go.RowKit

/-- how needs want a point: not at all, or to a side (true: reverse), as the first of them says -/
def ndAt : List (Int × Bool) → Int → Option Bool
 | [], _ => none
 | n :: l, p => if n.1 = p then some n.2 else ndAt l p
theorem ndAt_append (l m : List (Int × Bool)) (p : Int) : ndAt (l ++ m) p = (ndAt l p).or (ndAt m p) := by
 induction l with
 | nil => rfl
 | cons n l ih =>
   show (if n.1 = p then some n.2 else ndAt (l ++ m) p) = (if n.1 = p then some n.2 else ndAt l p).or (ndAt m p)
   by_cases h : n.1 = p
   ·rw [if_pos h, if_pos h]; rfl
   ·rw [if_neg h, if_neg h, ih]
theorem ndAt_some {l : List (Int × Bool)} {p : Int} {v : Bool} (h : ndAt l p = some v) : (p, v) ∈ l := by
 induction l with
 | nil => cases h
 | cons n l ih =>
   by_cases hp : n.1 = p
   ·have e : ndAt (n :: l) p = some n.2 := if_pos hp
    rw [e] at h
    injection h with h
    subst h
    subst hp
    exact List.mem_cons_self
   ·have e : ndAt (n :: l) p = ndAt l p := if_neg hp
    rw [e] at h
    exact List.mem_cons_of_mem _ (ih h)
/-- of one need for a point at most, each need is the first one -/
theorem ndAt_mem {l : List (Int × Bool)} {p : Int} {v : Bool} (hn : (l.map (·.1)).Nodup) (h : (p, v) ∈ l) : ndAt l p = some v := by
 induction l with
 | nil => cases h
 | cons n l ih =>
   rw [List.map_cons, List.nodup_cons] at hn
   by_cases hp : n.1 = p
   ·have e : ndAt (n :: l) p = some n.2 := if_pos hp
    rw [e]
    rcases List.mem_cons.1 h with h | h
    ·rw [← h]
    ·exact absurd (List.mem_map.2 ⟨_, h, hp.symm⟩) hn.1
   ·have e : ndAt (n :: l) p = ndAt l p := if_neg hp
    rw [e]
    rcases List.mem_cons.1 h with h | h
    ·exact absurd (by rw [← h]) hp
    ·exact ih hn.2 h
/-- is a point a reason? -/
def ptBad (t u : List Int) (x y : Option Bool) (s : Int) : Bool :=
 ((x.isSome && y.isSome) || (x.isSome && hasI u s) || (y.isSome && hasI t s)) && !((x.isSome == y.isSome) && (x.getD false == y.getD false))
theorem ptBad_comm (t u : List Int) (x y : Option Bool) (s : Int) : ptBad t u x y s = ptBad u t y x s := by
 unfold ptBad
 cases x with
 | none => cases y with
   | none => rfl
   | some b => cases hasI t s <;> cases hasI u s <;> cases b <;> rfl
 | some a => cases y with
   | none => cases hasI t s <;> cases hasI u s <;> cases a <;> rfl
   | some b => cases hasI t s <;> cases hasI u s <;> cases a <;> cases b <;> rfl
/-- the document's form -/
def ndNum : Option Bool → Nat
 | none => 0
 | some false => 1
 | some true => 2
theorem ptBad_num (t u : List Int) (x y : Option Bool) (s : Int) : ptBad t u x y s = (decide (ndNum x ≠ ndNum y) && (decide (0 < ndNum x ∧ 0 < ndNum y) || decide (0 < ndNum x) && hasI u s || decide (0 < ndNum y) && hasI t s)) := by
 unfold ptBad
 rcases x with _ | (_ | _) <;> rcases y with _ | (_ | _) <;> cases hasI t s <;> cases hasI u s <;> rfl
def Rt.tr (r : Rt) : List Int := r.pa.l ++ r.ov.l
def Rt.nd (r : Rt) : List (Int × Bool) := r.po.l ++ r.fl.l
/-- the reasons that lie in points, from the kth on -/
def ptsR (a b : Rt) : Nat → List (BA × Int) → List Bool
 | _, [] => []
 | k, p :: l => ptBad a.tr b.tr (ndAt a.nd k) (ndAt b.nd k) p.2 :: ptsR a b (k + 1) l
theorem ptsR_comm (a b : Rt) : ∀ (l : List (BA × Int)) (k : Nat), ptsR a b k l = ptsR b a k l := by
 intro l
 induction l with
 | nil => intro k; rfl
 | cons p l ih =>
   intro k
   show ptBad a.tr b.tr _ _ _ :: ptsR a b (k + 1) l = ptBad b.tr a.tr _ _ _ :: ptsR b a (k + 1) l
   rw [ih, ptBad_comm]
/-- all reasons, each whether it holds -/
def reasonsS (L : Lay) (a b : Rt) : List Bool := decide (a.sg = b.sg) :: (a.tr.map (hasI b.tr) ++ ptsR a b 0 L.po.l)
def conflictS (L : Lay) (a b : Rt) : Bool := (reasonsS L a b).any id
theorem any_has (t u : List Int) : (t.map (hasI u)).any id = (u.map (hasI t)).any id := by
 have h : ∀ (t u : List Int), (t.map (hasI u)).any id = true ↔ ∃ x, x ∈ t ∧ x ∈ u := by
  intro t u
  rw [List.any_eq_true]
  constructor
  ·rintro ⟨b, hb, h⟩
   obtain ⟨x, hx, rfl⟩ := List.mem_map.1 hb
   unfold hasI at h
   simp at h
   exact ⟨x, hx, h⟩
  ·rintro ⟨x, hx, hu⟩
   refine ⟨_, List.mem_map.2 ⟨x, hx, rfl⟩, ?_⟩
   unfold hasI
   simp [hu]
 rw [Bool.eq_iff_iff, h, h]
 constructor
 ·rintro ⟨x, h1, h2⟩; exact ⟨x, h2, h1⟩
 ·rintro ⟨x, h1, h2⟩; exact ⟨x, h2, h1⟩
/-- one with another one, as that with it -/
theorem conflict_comm (L : Lay) (a b : Rt) : conflictS L a b = conflictS L b a := by
 unfold conflictS reasonsS
 rw [List.any_cons, List.any_cons, List.any_append, List.any_append, any_has, ptsR_comm]
 congr 1
 show decide (a.sg = b.sg) = decide (b.sg = a.sg)
 rw [decide_eq_decide]
 exact eq_comm
theorem ptsR_get {a b : Rt} : ∀ {l : List (BA × Int)} {k j : Nat} {p : BA × Int}, l[j]? = some p → (ptsR a b k l)[j]? = some (ptBad a.tr b.tr (ndAt a.nd ((k + j : Nat) : Int)) (ndAt b.nd ((k + j : Nat) : Int)) p.2) := by
 intro l
 induction l with
 | nil => intro k j p h; simp at h
 | cons q l ih =>
   intro k j p h
   cases j with
   | zero => simp at h; subst h; rfl
   | succ j =>
     have := ih (k := k + 1) (by simpa using h)
     rw [show k + 1 + j = k + (j + 1) by omega] at this
     exact this
theorem ptsR_len (a b : Rt) : ∀ (l : List (BA × Int)) (k : Nat), (ptsR a b k l).length = l.length := by
 intro l
 induction l with
 | nil => intro k; rfl
 | cons p l ih => intro k; show (ptsR a b (k + 1) l).length + 1 = _; rw [ih]; rfl
end Go.Proofs.Ytpohoannggdbjaa
namespace Go.Proofs.Ytpohoannggdbjaa
open Go.RowKit
set_option maxRecDepth 100000
/-- do the routes of two numbers conflict? -/
def pairS (L : Lay) (a b : Int) : Bool :=
 decide (0 ≤ a ∧ 0 ≤ b ∧ a < L.rt.l.length ∧ b < L.rt.l.length ∧ a ≠ b) && (mayS L && (match L.rt.l[a.toNat]?, L.rt.l[b.toNat]? with | some x, some y => conflictS L x y | _, _ => false))
theorem ps_no {L : Lay} {a b : Int} (h : ¬ (0 ≤ a ∧ 0 ≤ b ∧ a < L.rt.l.length ∧ b < L.rt.l.length ∧ a ≠ b)) : pairS L a b = false := by unfold pairS; rw [decide_eq_false h]; rfl
theorem ps_may {L : Lay} {a b : Int} (h : mayS L = false) : pairS L a b = false := by unfold pairS; rw [h]; simp
theorem ps_at {L : Lay} {i k : Nat} {x y : Rt} (hm : mayS L = true) (hi : L.rt.l[i]? = some x) (hk : L.rt.l[k]? = some y) (hne : i ≠ k) : pairS L i k = conflictS L x y := by
 have h1 := (List.getElem?_eq_some_iff.1 hi).1
 have h2 := (List.getElem?_eq_some_iff.1 hk).1
 unfold pairS
 rw [decide_eq_true (by omega), hm, Int.toNat_natCast, Int.toNat_natCast, hi, hk]
 rfl
theorem ps_comm (L : Lay) (a b : Int) : pairS L a b = pairS L b a := by
 unfold pairS
 rw [show (decide (0 ≤ a ∧ 0 ≤ b ∧ a < L.rt.l.length ∧ b < L.rt.l.length ∧ a ≠ b)) = decide (0 ≤ b ∧ 0 ≤ a ∧ b < L.rt.l.length ∧ a < L.rt.l.length ∧ b ≠ a) by rw [decide_eq_decide]; omega]
 congr 2
 rcases L.rt.l[a.toNat]? with _ | x <;> rcases L.rt.l[b.toNat]? with _ | y <;> first | rfl | exact conflict_comm L x y
theorem mayS_small {L : Lay} (h : mayS L = true) : L.se.l.length ≤ 64 ∧ L.po.l.length ≤ 32 ∧ L.sg.l.length ≤ 32 ∧ L.rt.l.length ≤ 64 := by
 by_cases hs : L.se.l.length ≤ 64 ∧ L.po.l.length ≤ 32 ∧ L.sg.l.length ≤ 32 ∧ L.rt.l.length ≤ 64
 ·exact hs
 ·rw [may_big (small_no hs)] at h
  cases h
end Go.Proofs.Ytpohoannggdbjaa
namespace Go.Proofs.Ytpohoannggdbjaa
open Go.RowKit
theorem hasI_no {l : List Int} {s y : Int} {k : Nat} (h : l[k]? = some y) (hs : hasI (l.take k) s = false) (hy : y ≠ s) : hasI (l.take (k + 1)) s = false := by
 unfold hasI at hs ⊢
 rw [List.take_add_one, h, List.any_append, hs]
 simp [hy]
theorem hasI_yes {l : List Int} {s y : Int} {k : Nat} (h : l[k]? = some y) (hy : y = s) : hasI l s = true := by
 unfold hasI
 rw [List.any_eq_true]
 exact ⟨y, List.mem_of_getElem? h, decide_eq_true hy⟩
theorem ndAt_drop {l : List (Int × Bool)} {y : Int × Bool} {k : Nat} {p : Int} (h : l[k]? = some y) : ndAt (l.drop k) p = if y.1 = p then some y.2 else ndAt (l.drop (k + 1)) p := by
 have hk : k < l.length := (List.getElem?_eq_some_iff.1 h).1
 rw [List.drop_eq_getElem_cons hk, (List.getElem?_eq_some_iff.1 h).2]
 rfl
theorem ndAt_end {l : List (Int × Bool)} {k : Nat} {p : Int} (h : l.length = k) : ndAt (l.drop k) p = none := by rw [List.drop_eq_nil_of_le (by omega)]; rfl
attribute [local irreducible] hasI ndAt
attribute [local irreducible] Sl.v
end Go.Proofs.Ytpohoannggdbjaa
namespace Go.Proofs.Ytpohoannggdbjaa
open Go.RowKit
set_option maxRecDepth 100000

/-- block r is a map that tells of each number what f tells -/
def SdAt (w : World) (r : Nat) (f : Int → Option Bool) : Prop := ∃ es clock K, w.heap[r]? = some (.map es clock) ∧ es.toList.map (fun e => (e.key, e.val)) = K.map (fun (n : Int × Bool) => (Value.int .i64 n.1, Value.bool n.2)) ∧ (K.map (·.1)).Nodup ∧ ∀ p, ndAt K p = f p
theorem SdAt.below {w w' : World} {r : Nat} {f : Int → Option Bool} (h : SdAt w r f) (hb : Below w.heap.size w w') : SdAt w' r f := by
 obtain ⟨es, clock, K, h1, h2⟩ := h
 exact ⟨es, clock, K, blk_keep hb h1, h2⟩
theorem sd_key {es : List MapEntry} {K : List (Int × Bool)} (h : es.map (fun e => (e.key, e.val)) = K.map (fun (n : Int × Bool) => (Value.int .i64 n.1, Value.bool n.2))) : ∀ x ∈ es, MapKept.IsKey (.int .i64) x.key := by
 intro x hx
 have : (x.key, x.val) ∈ K.map (fun (n : Int × Bool) => (Value.int .i64 n.1, Value.bool n.2)) := by rw [← h]; exact List.mem_map.2 ⟨x, hx, rfl⟩
 obtain ⟨s, _, hs⟩ := List.mem_map.1 this
 injection hs with h1 h2
 rw [← h1]
 simp [MapKept.IsKey]
theorem ndAt_none {l : List (Int × Bool)} {p : Int} (h : ∀ v, (p, v) ∉ l) : ndAt l p = none := by
 cases hn : ndAt l p with
 | none => rfl
 | some v => exact absurd (ndAt_some hn) (h v)
theorem sd_find {es : List MapEntry} {K : List (Int × Bool)} {p : Int} (h : es.map (fun e => (e.key, e.val)) = K.map (fun (n : Int × Bool) => (Value.int .i64 n.1, Value.bool n.2))) (hn : (K.map (·.1)).Nodup) :
 (ndAt K p = none ∧ (∀ v, (p, v) ∉ K) ∧ Instr.findNow (.int .i64) (.int .i64 p) es 0 = some none) ∨ ∃ j b e, ndAt K p = some b ∧ K[j]? = some (p, b) ∧ es[j]? = some e ∧ e.key = .int .i64 p ∧ e.val = .bool b ∧ Instr.findNow (.int .i64) (.int .i64 p) es 0 = some (some (j, .bool b)) := by
 rcases MapKept.findNow_spec (d := .int .i64) (k := .int .i64 p) (by simp [MapKept.IsKey]) es 0 (sd_key h) with ⟨h1, h2⟩ | ⟨j, e, h1, h2, h3⟩
 ·have h4 : ∀ v, (p, v) ∉ K := by
   intro v hv
   have : (Value.int .i64 p, Value.bool v) ∈ es.map (fun e => (e.key, e.val)) := by rw [h]; exact List.mem_map.2 ⟨(p, v), hv, rfl⟩
   obtain ⟨x, hx, he⟩ := List.mem_map.1 this
   injection he with he1 he2
   exact h2 x hx he1
  exact .inl ⟨ndAt_none h4, h4, h1⟩
 ·have h5 : (es.map (fun e => (e.key, e.val)))[j]? = some (e.key, e.val) := by rw [List.getElem?_map, h2]; rfl
  rw [h, List.getElem?_map] at h5
  cases hk : K[j]? with
  | none => rw [hk] at h5; cases h5
  | some n =>
    rw [hk] at h5
    obtain ⟨n1, n2⟩ := n
    injection h5 with h5
    injection h5 with h6 h7
    rw [h3] at h6
    injection h6 with _ h6
    dsimp only at h6 h7
    subst h6
    refine .inr ⟨j, n2, e, ndAt_mem hn (List.mem_of_getElem? hk), hk, h2, h3, h7.symm, ?_⟩
    rw [h1, Nat.zero_add, ← h7]
theorem info_bool : (Try.prog.info? 4).map (fun i => (i.zero, i.size, i.bytes)) = some (some (.bool false), 1, 1) := by kernel_rfl
theorem run_sd_get {w : World} {r : Nat} {f : Int → Option Bool} {p : Int} (h : SdAt w r f) : (Instr.lookup 139 (.map (some r)) (.int .i64 p) true).run Try.prog w = .ok (.tuple #[.bool ((f p).getD false), .bool (f p).isSome]) w := by
 obtain ⟨es, clock, K, h1, h2, h3, h4⟩ := h
 have hc : (Instr.checkKey es.isEmpty 10000 3 (.int .i64 p)).run Try.prog w = .ok () w := MapKept.run_checkKey (k := .int .i64 p) Try.underlying3 (by simp [MapKept.IsKey]) es.isEmpty 9999
 rw [← h4 p]
 rcases sd_find (p := p) h2 h3 with ⟨g1, _, g2⟩ | ⟨j, b, e, g1, _, _, _, _, g2⟩
 ·obtain ⟨i0, hi, hz0, _, _⟩ := info_parts info_bool
  have hz : (zeroValue 4).run Try.prog w = .ok (.bool false) w := by simp [zeroValue, typeInfo, hi, hz0, Result.andThen]
  rw [g1]
  simp [Instr.lookup, run_underlying Try.underlying139, MapKept.run_getObj_map h1, hc, MapKept.run_findKey Try.underlying3 g2, hz, Result.andThen]
 ·rw [g1]
  simp [Instr.lookup, run_underlying Try.underlying139, MapKept.run_getObj_map h1, hc, MapKept.run_findKey Try.underlying3 g2, Result.andThen]
theorem ndAt_set : ∀ (K : List (Int × Bool)) (j : Nat) (p q : Int) (b v : Bool), K[j]? = some (p, b) → (K.map (·.1)).Nodup → ndAt (K.set j (p, v)) q = if q = p then some v else ndAt K q := by
 intro K
 induction K with
 | nil => intro j p q b v h; simp at h
 | cons n K ih =>
   intro j p q b v h hn
   rw [List.map_cons, List.nodup_cons] at hn
   cases j with
   | zero =>
     simp at h
     subst h
     rw [List.set_cons_zero]
     show (if p = q then some v else ndAt K q) = if q = p then some v else (if p = q then some b else ndAt K q)
     by_cases hq : q = p
     ·rw [if_pos hq, if_pos hq.symm]
     ·rw [if_neg hq, if_neg (fun e => hq e.symm), if_neg (fun e => hq e.symm)]
   | succ j =>
     have h' : K[j]? = some (p, b) := by simpa using h
     rw [List.set_cons_succ]
     show (if n.1 = q then some n.2 else ndAt (K.set j (p, v)) q) = if q = p then some v else (if n.1 = q then some n.2 else ndAt K q)
     rw [ih j p q b v h' hn.2]
     by_cases hq : q = p
     ·subst hq
      have hne : n.1 ≠ q := fun e => hn.1 (List.mem_map.2 ⟨(q, b), List.mem_of_getElem? h', e.symm⟩)
      rw [if_pos rfl, if_neg hne, if_pos rfl]
     ·rw [if_neg hq, if_neg hq]
theorem ndAt_snoc (K : List (Int × Bool)) (p q : Int) (v : Bool) (h : ∀ b, (p, b) ∉ K) : ndAt (K ++ [(p, v)]) q = if q = p then some v else ndAt K q := by
 rw [ndAt_append]
 show (ndAt K q).or (if p = q then some v else none) = _
 by_cases hq : q = p
 ·subst hq
  rw [ndAt_none h]
  simp
 ·rw [if_neg hq, if_neg (fun e => hq e.symm)]
  cases ndAt K q <;> rfl
theorem run_sd_put {w : World} {r : Nat} {f : Int → Option Bool} {p : Int} (v : Bool) (h : SdAt w r f) : ∃ w', (Instr.mapUpdate 139 (.map (some r)) (.int .i64 p) (.bool v)).run Try.prog w = .ok () w' ∧ SdAt w' r (fun q => if q = p then some v else f q) ∧ Only r w w' := by
 obtain ⟨es, clock, K, h1, h2, h3, h4⟩ := h
 have hc : (Instr.checkKey false 10000 3 (.int .i64 p)).run Try.prog w = .ok () w := MapKept.run_checkKey (k := .int .i64 p) Try.underlying3 (by simp [MapKept.IsKey]) false 9999
 rcases sd_find (p := p) h2 h3 with ⟨g1, g0, g2⟩ | ⟨j, b, e, g1, gk, ge, gek, gev, g2⟩
 ·refine ⟨{ w with heap := w.heap.setIfInBounds r (.map (es.push { key := .int .i64 p, val := .bool v, born := clock }) (clock + 1)) }, ?_, ?_, ?_⟩
  ·simp [Instr.mapUpdate, run_underlying Try.underlying139, MapKept.run_getObj_map h1, hc, MapKept.run_findKey Try.underlying3 g2, MapKept.run_setObj_map _ h1, Result.andThen]
  ·refine ⟨_, _, K ++ [(p, v)], (MapKept.heap_set h1).1, by rw [Array.toList_push, List.map_append, h2, List.map_append]; rfl, ?_, fun q => ?_⟩
   ·rw [List.map_append]
    refine List.nodup_append.2 ⟨h3, by simp, ?_⟩
    intro a ha c hc2
    simp at hc2
    subst hc2
    intro e
    subst e
    obtain ⟨n, hn, hh⟩ := List.mem_map.1 ha
    exact g0 n.2 (by rw [← hh]; exact hn)
   ·rw [ndAt_snoc K p q v g0, h4]
  ·exact ⟨rfl, rfl, rfl, by simp, fun k _ hk => (MapKept.heap_set h1).2 k hk⟩
 ·have hj : es[j]? = some e := by simpa using ge
  refine ⟨{ w with heap := w.heap.setIfInBounds r (.map (es.modify j fun e' => { e' with key := .int .i64 p, val := .bool v }) clock) }, ?_, ?_, ?_⟩
  ·simp [Instr.mapUpdate, run_underlying Try.underlying139, MapKept.run_getObj_map h1, hc, MapKept.run_findKey Try.underlying3 g2, hj, gek, MapKept.run_keyThatStays (d := .int .i64) (k := .int .i64 p) (by simp [MapKept.IsKey]), MapKept.run_setObj_map _ h1, Result.andThen]
  ·refine ⟨_, _, K.set j (p, v), (MapKept.heap_set h1).1, ?_, ?_, fun q => ?_⟩
   ·rw [Array.toList_modify]
    apply List.ext_getElem?
    intro i
    have h5 : (es.toList.map (fun e => (e.key, e.val)))[i]? = (K.map (fun (n : Int × Bool) => (Value.int .i64 n.1, Value.bool n.2)))[i]? := by rw [h2]
    rw [List.getElem?_map, List.getElem?_map] at h5
    rw [List.getElem?_map, List.getElem?_map, List.getElem?_modify, List.getElem?_set]
    by_cases hij : j = i
    ·subst hij
     have hlt : j < K.length := (List.getElem?_eq_some_iff.1 gk).1
     rw [if_pos rfl, if_pos hlt, ge]
     simp
    ·rw [if_neg hij]
     simp only [hij, if_false]
     rw [← h5]
     simp
   ·have : (K.set j (p, v)).map (·.1) = K.map (·.1) := by
     rw [List.map_set]
     apply List.ext_getElem?
     intro i
     rw [List.getElem?_set]
     by_cases hij : j = i
     ·subst hij
      have hlt : j < (K.map (·.1)).length := by rw [List.length_map]; exact (List.getElem?_eq_some_iff.1 gk).1
      rw [if_pos rfl, if_pos hlt, List.getElem?_map, gk]
      rfl
     ·rw [if_neg hij]
    rw [this]
    exact h3
   ·rw [ndAt_set K j p q b v gk h3, h4]
  ·exact ⟨rfl, rfl, rfl, by simp, fun k _ hk => (MapKept.heap_set h1).2 k hk⟩
end Go.Proofs.Ytpohoannggdbjaa
namespace Go.Proofs.Ytpohoannggdbjaa
open Go.RowKit Go.Shelf
set_option maxRecDepth 100000
attribute [local go_sem] Oper.semAt_some
theorem backward_any (a : Option Addr) (n c : Nat) (w : World) : Calls Try.prog 68 #[.slice a n c] w fun e w' => e = .returned (.func (.func 69) #[] #[.pointer (some ⟨w.heap.size, 0, none⟩)]) ∧ w' = w.alloc (.cells #[.slice a n c] 56) := by
 go_enter Try.func68, Try.ntmps68
 go_wp2_with fail
 go_ret
 exact ⟨rfl, rfl⟩
/-- needs with their places, from the last one on -/
def bkL (l : List (Int × Bool)) : List (Nat × (Int × Bool)) := (l.zipIdx.map fun p => (p.2, p.1)).reverse
theorem bkL_len (l : List (Int × Bool)) : (bkL l).length = l.length := by simp [bkL]
theorem bkL_get {l : List (Int × Bool)} {q t : Nat} {y : Int × Bool} (ht : l.length = q + 1 + t) (h : l[t]? = some y) : (bkL l)[q]? = some (t, y) := by
 unfold bkL
 have hlen : (l.zipIdx.map fun p => ((p.2, p.1) : Nat × (Int × Bool))).length = l.length := by simp
 rw [List.getElem?_reverse (by rw [hlen]; omega), hlen, show l.length - 1 - q = t by omega, List.getElem?_map, List.getElem?_zipIdx, h]
 simp
def encB (m : Nat × (Int × Bool)) : Array Value := #[.int .i64 (m.1 : Int), .agg #[.int .i64 m.2.1, .bool m.2.2]]
/-- what a round must keep: all blocks of cells -/
def KpC (X Y : World) : Prop := ∀ (k : Nat) (cs : Array Value) (t : TypeId) (fr : Nat × Nat), X.heap[k]? = some (Obj.cells cs t fr) → Y.heap[k]? = some (Obj.cells cs t fr)
theorem kpC_t {X Y Z : World} (h : KpC X Y) (k : KpC Y Z) : KpC X Z := fun b cs t fr hb => k b cs t fr (h b cs t fr hb)
theorem kpC_b (W : World) (l : Nat) (o o' : Obj) (hl : W.heap[l]? = some o) (ho : o.isCells = false) : KpC W (W.putObj l o') := by
 intro k cs t fr hk
 have hne : k ≠ l := by
  intro e
  subst e
  rw [hl] at hk
  injection hk with hk
  rw [hk] at ho
  cases ho
 rw [World.putObj_heap_other hne]
 exact hk
theorem kpC_below {X Y : World} (h : Below X.heap.size X Y) : KpC X Y := fun _ _ _ _ hk => blk_keep h hk
theorem cell_obj {w : World} {b i : Nat} {v : Value} (h : w.cell? ⟨b, i, none⟩ = some v) : ∃ cs t fr, w.heap[b]? = some (.cells cs t fr) := by
 unfold World.cell? at h
 cases hh : w.heap[b]? with
 | none => simp [hh] at h
 | some o =>
   cases o with
   | cells cs t fr => exact ⟨cs, t, fr, rfl⟩
   | _ => simp [hh] at h
theorem RowAt.kpC {α : Type} {sz : Nat} {f : α → List Value} {w w' : World} {a : Option Addr} {l : List α} (h : RowAt sz f w a l) (k : KpC w w') : RowAt sz f w' a l := by
 refine h.imp id ?_
 rintro ⟨b, off, h1, h2⟩
 refine ⟨b, off, h1, fun i c hi j v hv => ?_⟩
 have h3 := h2 i c hi j v hv
 obtain ⟨cs, t, fr, h4⟩ := cell_obj h3
 rw [World.cell?_of_block (w := w) (a := ⟨b, off + i * sz + j, none⟩) ((k b cs t fr h4).trans h4.symm)]
 exact h3
attribute [local irreducible] bkL
set_option maxHeartbeats 2000000 in
theorem back_stops (n : Nat) (hn : 2 ≤ n) (Bx m c : Nat) (a : Option Addr) (l : List (Int × Bool)) (w : World) (hl : l.length = m) (hm : m ≤ 100000) (hrow : RowAt 2 ndC w a l) (hBx : w.heap[Bx]? = some (.cells #[.slice a m c] 56)) :
 SeqStopsK Fence.wide n Try.prog 69 #[.pointer (some ⟨Bx, 0, none⟩)] encB KpC (fun ys => ys = bkL l) (fun _ => True) m w := fun lp J Jx W hW _ _ hY h0 => by
 have hqW := blk_keep hW hBx
 have hrW := hrow.below hW
 have HL := Lib.hid hl
 have HM := Lib.hid hm
 have E3 : Hid (wrap64 ((m : Int) - 1) = (m : Int) - 1) := Lib.hid (by unfold wrap64; omega)
 have c0 := blk_cell hqW 0 _ rfl
 have e3 := E3.out
 clear hl hm hrow hBx hW
 refine callsIn_of_wp Try.func69 rfl trivial ?_ rfl
 simp only [Try.ntmps69, List.size_toArray, List.length_cons, List.length_nil, Nat.reduceAdd, Nat.reduceSub, Array.replicate_succ, Array.replicate_zero, List.push_toArray, List.append_toArray, List.nil_append, List.cons_append]
 gi_wp2
 clear e3 c0
 gi_loopw [3] (fun i wr => ∃ (q : Nat) (iv : Int), q ≤ m ∧ i = .int .i64 iv ∧ iv = (m : Int) - 1 - (q : Int) ∧ J ((bkL l).take q) wr ∧ wr.heap[Bx]? = some (.cells #[.slice a m c] 56) ∧ RowAt 2 ndC wr a l) (fun i _ => (intOf i + 1).toNat)
 case atStart => exact ⟨0, _, Nat.zero_le _, rfl, by first | (rw [E3.out]; omega) | omega, by rw [List.take_zero]; exact h0, hqW, hrW⟩
 case round =>
  obtain ⟨q, iv, hq, rfl, hiv, hJ, hbx, hr⟩ := hrel
  have HBX := Lib.hid hbx
  have HR := Lib.hid hr
  by_cases hlt : q < m
  ·obtain ⟨t, ht⟩ : ∃ t, m = q + 1 + t := ⟨m - (q + 1), by omega⟩
   have hit : iv = (t : Int) := by omega
   subst hit
   obtain ⟨y, hy⟩ : ∃ y, l[t]? = some y := ⟨_, List.getElem?_eq_getElem (by rw [HL.out]; omega)⟩
   have hbk := bkL_get (by rw [HL.out]; exact ht) hy
   obtain ⟨fn, tmps, assign, body, hy2, hR⟩ := hY ((bkL l).take q) (t, y) wr hJ (by rw [List.length_take, bkL_len, HL.out]; omega)
   obtain ⟨y0, y1⟩ := y
   dsimp only [encB] at hy2
   rcases hr with hnil | ⟨xb, off, hxb, hc⟩
   ·rw [hnil] at hy; simp at hy
   subst hxb
   have z0 := hc t _ hy 0 _ rfl
   have z1 := hc t _ hy 1 _ rfl
   rw [Nat.add_zero] at z0
   dsimp only at z0 z1
   have c0 := blk_cell hbx 0 _ rfl
   have d1 : (0 : Int) ≤ (t : Int) := by omega
   have d2 : (t : Int) < (m : Int) := by omega
   have HT := Lib.hid ht
   have HQ := Lib.hid hq
   have HLT := Lib.hid hlt
   have HJN : Hid (∀ V, J ((bkL l).take q ++ [(t, (y0, y1))]) V → J ((bkL l).take (q + 1)) V) := Lib.hid (fun V h => by rw [List.take_add_one, hbk]; exact h)
   have E5 : Hid (wrap64 ((t : Int) - 1) = (t : Int) - 1) := Lib.hid (by have := HM.out; unfold wrap64; omega)
   clear hc hy hbk hbx ht hq hlt hJ hiv
   gi_wp2
   refine ⟨fun _ => by omega, ?_⟩
   refine hR.mono ?_
   rintro e W' (⟨rfl, hJ', hk'⟩ | ⟨rfl, hJx⟩)
   ·have hb' := hk' _ _ _ _ HBX.out
    have hr' := HR.out.kpC hk'
    have e5 := E5.out
    gi_wp2
    go_roundw
    case rel => exact ⟨q + 1, (t : Int) - 1, by have := HLT.out; omega, by first | rfl | go_num, by have := HT.out; omega, HJN.out _ hJ', hb', hr'⟩
    case measure => first | (simp [intOf, E5.out]; done) | (simp [intOf, E5.out]; omega)
   ·gi_wp2
    refine bodyPost_ret (results_none rfl _ _ _) rfl ?_
    exact ⟨⟨_, rfl⟩, .inr ⟨_, trivial, hJx⟩⟩
  ·have hqm : q = m := by omega
   have hit : iv = -1 := by omega
   subst hit
   subst hqm
   have hJ2 := hJ
   rw [List.take_of_length_le (by rw [bkL_len, HL.out]; exact Nat.le_refl _)] at hJ2
   clear hbx hr hiv hq hlt
   gi_wp2
   go_end0
   exact ⟨⟨_, rfl⟩, .inl ⟨_, rfl, hJ2⟩⟩
end Go.Proofs.Ytpohoannggdbjaa
