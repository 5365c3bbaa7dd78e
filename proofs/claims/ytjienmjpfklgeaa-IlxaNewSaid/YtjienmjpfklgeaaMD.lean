/-
 Merged: ToF, ToG, ToW, ToYC.
-/
import Derived.Test.YtjienmjpfklgeaaMC
import Derived.Deep.RegionHeld3
import Derived.Test.YtjienmjpfklgeaaMA
namespace Go.Proofs.Ytjienmjpfklgeaa
open Go.RowKit
set_option maxRecDepth 100000
attribute [local irreducible] hasN belowB mayB

theorem fst_take {l : List (Int × Bool)} {k : Nat} {c : Int × Bool} (h : l[k]? = some c) : ((l.take (k + 1)).map (·.1)).flatMap intC = ((l.take k).map (·.1)).flatMap intC ++ [.int .i64 c.1] := by
 rw [List.take_add_one, h, List.map_append, List.flatMap_append]; rfl
set_option maxRecDepth 100000 in
set_option maxHeartbeats 1000000 in
theorem rpoints_is (x : Option Addr) (m c : Nat) (l : List (Int × Bool)) (w : World) (hn : l.length = m) (hm : m ≤ 9223372036854775807) (hl : RowAt 2 ndC w x l) :
 Calls Try.prog 76 #[.slice x m c] w fun e w' => ∃ a n cc, e = .returned (.slice a n cc) ∧ n = min 17 l.length ∧ SlAt 1 intC w' ⟨a, cc, (l.map (·.1)).take 17⟩ ∧ Below w.heap.size w w' := by
 have HN := Lib.hid hn
 clear hn
 obtain ⟨i0, hi, hz0, hz1, hz2⟩ := info_parts info_int
 have HI := Lib.hid (And.intro hi (And.intro hz0 (And.intro hz1 hz2)))
 clear hi hz0 hz1 hz2
 go_enter Try.func76, Try.ntmps76
 go_wp2_with fail
 go_loopg [3, 4] m (fun g v i wr => ∃ k : Nat, k + g = m ∧ k ≤ 17 ∧ i = .int .i64 (k : Int) ∧ wr.ownsRow w.heap.size 3 1 v k (((l.take k).map (·.1)).flatMap intC) ∧ Below w.heap.size w wr)
 case atStart => exact ⟨0, by omega, by omega, rfl, by rw [List.take_zero]; exact World.ownsRow_nil _ _ _ _, Below.refl _ _⟩
 case round =>
  obtain ⟨k, hk, hk17, rfl, hO, hbw⟩ := hrel
  by_cases hlt : k < m
  ·by_cases h17 : k < 17
   ·skip
    obtain ⟨y, hy⟩ : ∃ y, l[k]? = some y := ⟨_, List.getElem?_eq_getElem (by rw [HN.out]; exact hlt)⟩
    rcases hl.below hbw with rfl | ⟨b, off, rfl, hc⟩
    ·simp at hy
    obtain ⟨y0, y1⟩ := y
    have z0 := hc k _ hy 0 _ rfl
    rw [Nat.add_zero] at z0
    dsimp only at z0
    have HY := Lib.hid hy
    have d1 : (0 : Int) ≤ k := by omega
    have d2 : (k : Int) < m := by omega
    have d3 : (k : Int) < 17 := by omega
    have e1 : wrap64 ((k : Int) + 1) = (k : Int) + 1 := by unfold wrap64; omega
    have HK := Lib.hid hk
    have HB := Lib.hid (show k ≤ 100000 by omega)
    have HBW := Lib.hid hbw
    have HOW := Lib.hid (own_below (below1 wr (Obj.cells #[.int .i64 y0] 3)) hO)
    have HSR := Lib.hid (src_one (u := .int .i64 y0) rfl (alloc1 wr (Obj.cells #[.int .i64 y0] 3) (Below.refl _ _)))
    clear hc hy hk hbw hO
    go_wp2_with (at_builtin; refine wpList_append_src rfl _ _ 41 rfl w.heap.size 3 i0 (.int .i64 0) 1 8 Try.underlying41 HI.out.1 HI.out.2.1 HI.out.2.2.1 HI.out.2.2.2 rfl (by decide) _ k (((l.take k).map (fun (p : Int × Bool) => p.1)).flatMap intC) rfl HOW.out (some ⟨wr.heap.size, 0, none⟩) 1 1 [.int .i64 y0] rfl rfl HSR.out (by have := HB.out; unfold maxLen; omega) (by have := HB.out; omega) (by have := HBW.out.size; simp; omega) ?_; intro v4 W4 hown4 hg4)
    have hB7 : Below w.heap.size w W4 := (HBW.out.alloc HBW.out.size _).grown hg4 (by have := HBW.out.size; simp; omega) (fun k hk => (HOW.out.lt _ hk).1)
    go_roundg (m - (k + 1))
    case rel => exact ⟨k + 1, by have := HK.out; omega, by omega, by go_num, by rw [fst_take HY.out]; exact hown4, hB7⟩
    case measure => have := HK.out; omega
   ·have d2 : (k : Int) < m := by omega
    have d3 : ¬ (k : Int) < 17 := by omega
    have hkb : k = 17 := by omega
    subst hkb
    have hF : (l.take 17).map (·.1) = (l.map (·.1)).take 17 := List.map_take
    have hL : ((l.take 17).map (·.1)).length = 17 := by rw [List.length_map, List.length_take, HN.out]; omega
    obtain ⟨a, cc, rfl, hS⟩ := own_sl int_len hL hO
    rw [hF] at hS
    have HS := Lib.hid hS
    have HBW := Lib.hid hbw
    have HK := Lib.hid (show 17 = min 17 l.length by have := HN.out; omega)
    clear hO hS hbw hk hF hL
    go_wp2_with fail
    go_ret
    exact ⟨a, 17, cc, rfl, HK.out, HS.out, HBW.out⟩
  ·have d2 : ¬ (k : Int) < m := by omega
   have hF : (l.take k).map (·.1) = (l.map (·.1)).take 17 := by rw [List.take_of_length_le (by rw [HN.out]; omega), List.take_of_length_le (by rw [List.length_map, HN.out]; omega)]
   have hL : ((l.take k).map (·.1)).length = k := by rw [List.length_map, List.length_take, HN.out]; omega
   obtain ⟨a, cc, rfl, hS⟩ := own_sl int_len hL hO
   rw [hF] at hS
   have HS := Lib.hid hS
   have HBW := Lib.hid hbw
   have HK := Lib.hid (show k = min 17 l.length by have := HN.out; omega)
   clear hO hS hbw hk hF hL
   go_wp2_with fail
   go_ret
   exact ⟨a, k, cc, rfl, HK.out, HS.out, HBW.out⟩
set_option maxRecDepth 100000 in
set_option maxHeartbeats 1000000 in
theorem r5points_is (x : Option Addr) (m c : Nat) (l : List (Int × Bool)) (w : World) (hn : l.length = m) (hm : m ≤ 9223372036854775807) (hmm : m ≤ 100000) (hl : RowAt 2 ndC w x l) :
 Calls Try.prog 77 #[.slice x m c] w fun e w' => ∃ a n cc, e = .returned (.slice a n cc) ∧ n = l.length ∧ SlAt 1 intC w' ⟨a, cc, l.map (·.1)⟩ ∧ Below w.heap.size w w' := by
 have HN := Lib.hid hn
 clear hn
 obtain ⟨i0, hi, hz0, hz1, hz2⟩ := info_parts info_int
 have HI := Lib.hid (And.intro hi (And.intro hz0 (And.intro hz1 hz2)))
 clear hi hz0 hz1 hz2
 go_enter Try.func77, Try.ntmps77
 go_wp2_with fail
 go_loopg [3, 4] m (fun g v i wr => ∃ k : Nat, k + g = m ∧ i = .int .i64 (k : Int) ∧ wr.ownsRow w.heap.size 3 1 v k (((l.take k).map (·.1)).flatMap intC) ∧ Below w.heap.size w wr)
 case atStart => exact ⟨0, by omega, rfl, by rw [List.take_zero]; exact World.ownsRow_nil _ _ _ _, Below.refl _ _⟩
 case round =>
  obtain ⟨k, hk, rfl, hO, hbw⟩ := hrel
  by_cases hlt : k < m
  ·skip
   obtain ⟨y, hy⟩ : ∃ y, l[k]? = some y := ⟨_, List.getElem?_eq_getElem (by rw [HN.out]; exact hlt)⟩
   rcases hl.below hbw with rfl | ⟨b, off, rfl, hc⟩
   ·simp at hy
   obtain ⟨y0, y1⟩ := y
   have z0 := hc k _ hy 0 _ rfl
   rw [Nat.add_zero] at z0
   dsimp only at z0
   have HY := Lib.hid hy
   have d1 : (0 : Int) ≤ k := by omega
   have d2 : (k : Int) < m := by omega
   skip
   have e1 : wrap64 ((k : Int) + 1) = (k : Int) + 1 := by unfold wrap64; omega
   have HK := Lib.hid hk
   have HB := Lib.hid (show k ≤ 100000 by omega)
   have HBW := Lib.hid hbw
   have HOW := Lib.hid (own_below (below1 wr (Obj.cells #[.int .i64 y0] 3)) hO)
   have HSR := Lib.hid (src_one (u := .int .i64 y0) rfl (alloc1 wr (Obj.cells #[.int .i64 y0] 3) (Below.refl _ _)))
   clear hc hy hk hbw hO
   go_wp2_with (at_builtin; refine wpList_append_src rfl _ _ 41 rfl w.heap.size 3 i0 (.int .i64 0) 1 8 Try.underlying41 HI.out.1 HI.out.2.1 HI.out.2.2.1 HI.out.2.2.2 rfl (by decide) _ k (((l.take k).map (fun (p : Int × Bool) => p.1)).flatMap intC) rfl HOW.out (some ⟨wr.heap.size, 0, none⟩) 1 1 [.int .i64 y0] rfl rfl HSR.out (by have := HB.out; unfold maxLen; omega) (by have := HB.out; omega) (by have := HBW.out.size; simp; omega) ?_; intro v4 W4 hown4 hg4)
   have hB7 : Below w.heap.size w W4 := (HBW.out.alloc HBW.out.size _).grown hg4 (by have := HBW.out.size; simp; omega) (fun k hk => (HOW.out.lt _ hk).1)
   go_roundg (m - (k + 1))
   case rel => exact ⟨k + 1, by have := HK.out; omega, by go_num, by rw [fst_take HY.out]; exact hown4, hB7⟩
   case measure => have := HK.out; omega
  ·have d2 : ¬ (k : Int) < m := by omega
   have hF : (l.take k).map (·.1) = l.map (·.1) := by rw [List.take_of_length_le (by rw [HN.out]; omega)]
   have hL : ((l.take k).map (·.1)).length = k := by rw [List.length_map, List.length_take, HN.out]; omega
   obtain ⟨a, cc, rfl, hS⟩ := own_sl int_len hL hO
   rw [hF] at hS
   have HS := Lib.hid hS
   have HBW := Lib.hid hbw
   have HK := Lib.hid (show k = l.length by have := HN.out; omega)
   clear hO hS hbw hk hF hL
   go_wp2_with fail
   go_ret
   exact ⟨a, k, cc, rfl, HK.out, HS.out, HBW.out⟩
theorem full_is (L : Lay) (w : World) : Calls Try.prog 71 #[.agg #[L.se.v, L.po.v, L.sg.v, L.rt.v]] w fun e w' => e = .returned (.bool (!L.small)) ∧ Below w.heap.size w w' := by
 obtain ⟨n1, hn1⟩ : ∃ n, L.se.l.length = n := ⟨_, rfl⟩
 obtain ⟨n2, hn2⟩ : ∃ n, L.po.l.length = n := ⟨_, rfl⟩
 obtain ⟨n3, hn3⟩ : ∃ n, L.sg.l.length = n := ⟨_, rfl⟩
 obtain ⟨n4, hn4⟩ : ∃ n, L.rt.l.length = n := ⟨_, rfl⟩
 rw [slv hn1, slv hn2, slv hn3, slv hn4]
 have N := Lib.hid (And.intro hn1 (And.intro hn2 (And.intro hn3 hn4)))
 clear hn1 hn2 hn3 hn4
 by_cases x1 : 64 < n1
 ·have HF : Hid (L.small = false) := Lib.hid (small_no (by have := N.out; omega))
  have y1 : (64 : Int) < (n1 : Nat) := by omega
  clear x1
  skip
  go_enter Try.func71, Try.ntmps71
  go_wp2_with fail
  go_ret
  exact ⟨by rw [HF.out]; rfl, below1 _ _⟩
 have y1 : ¬ (64 : Int) < (n1 : Nat) := by omega
 by_cases x2 : 32 < n2
 ·have HF : Hid (L.small = false) := Lib.hid (small_no (by have := N.out; omega))
  have y1 : (32 : Int) < (n2 : Nat) := by omega
  clear x2
  skip
  go_enter Try.func71, Try.ntmps71
  go_wp2_with fail
  go_ret
  exact ⟨by rw [HF.out]; rfl, below1 _ _⟩
 have y2 : ¬ (32 : Int) < (n2 : Nat) := by omega
 by_cases x3 : 32 < n3
 ·have HF : Hid (L.small = false) := Lib.hid (small_no (by have := N.out; omega))
  have y1 : (32 : Int) < (n3 : Nat) := by omega
  clear x3
  skip
  go_enter Try.func71, Try.ntmps71
  go_wp2_with fail
  go_ret
  exact ⟨by rw [HF.out]; rfl, below1 _ _⟩
 have y3 : ¬ (32 : Int) < (n3 : Nat) := by omega
 by_cases x4 : 64 < n4
 ·have HF : Hid (L.small = false) := Lib.hid (small_no (by have := N.out; omega))
  have y1 : (64 : Int) < (n4 : Nat) := by omega
  clear x4
  skip
  go_enter Try.func71, Try.ntmps71
  go_wp2_with fail
  go_ret
  exact ⟨by rw [HF.out]; rfl, below1 _ _⟩
 have y4 : ¬ (64 : Int) < (n4 : Nat) := by omega
 have HF : Hid (L.small = true) := Lib.hid (small_yes (by have := N.out; omega) (by have := N.out; omega) (by have := N.out; omega) (by have := N.out; omega))
 clear x1 x2 x3 x4
 skip
 go_enter Try.func71, Try.ntmps71
 go_wp2_with fail
 go_ret
 exact ⟨by rw [HF.out]; rfl, below1 _ _⟩
theorem small_get {L : Lay} (h : L.small = true) : L.se.l.length ≤ 64 ∧ L.po.l.length ≤ 32 ∧ L.sg.l.length ≤ 32 ∧ L.rt.l.length ≤ 64 := of_decide_eq_true h
def Lay.all (L : Lay) : List BA := L.n3 ++ L.rt.l.map (·.nm)
theorem all_eq (L : Lay) : L.n3 ++ L.rt.l.map (·.nm) = L.all := rfl
theorem all_len {L : Lay} {n1 n2 n3 n4 : Nat} (h1 : L.se.l.length = n1) (h2 : L.po.l.length = n2) (h3 : L.sg.l.length = n3) (h4 : L.rt.l.length = n4) : L.all.length = n1 + n2 + n3 + n4 := by
 unfold Lay.all Lay.n3 Lay.n2; simp [h1, h2, h3, h4]; omega
theorem flat_one (s : BA) : [s].flatMap strC = [.string s] := rfl
theorem nm_take {α : Type} {pre : List BA} {f : α → BA} {l : List α} {k : Nat} {c : α} (h : l[k]? = some c) : (pre ++ (l.take (k + 1)).map f).flatMap strC = (pre ++ (l.take k).map f).flatMap strC ++ [.string (f c)] := by
 rw [take_names h, ← List.append_assoc, List.flatMap_append, flat_one]
attribute [local irreducible] Lay.n1 Lay.n2 Lay.n3 Lay.all Sl.v strC
set_option maxRecDepth 100000 in
set_option maxHeartbeats 8000000 in
theorem names_is (L : Lay) (w : World) (hL : LayAt w L) (hs : L.small = true) : Calls Try.prog 72 #[.agg #[L.se.v, L.po.v, L.sg.v, L.rt.v]] w fun e w' => ∃ a n c, e = .returned (.slice a n c) ∧ n = L.all.length ∧ SlAt 1 strC w' ⟨a, c, L.all⟩ ∧ Below w.heap.size w w' := by
 have HA := Lib.hid hL
 obtain ⟨n1, hn1⟩ : ∃ n, L.se.l.length = n := ⟨_, rfl⟩
 obtain ⟨n2, hn2⟩ : ∃ n, L.po.l.length = n := ⟨_, rfl⟩
 obtain ⟨n3, hn3⟩ : ∃ n, L.sg.l.length = n := ⟨_, rfl⟩
 obtain ⟨n4, hn4⟩ : ∃ n, L.rt.l.length = n := ⟨_, rfl⟩
 have HXX := Lib.hid (small_get hs)
 rw [hn1, hn2, hn3, hn4] at HXX
 have v1 := slv hn1
 have v2 := slv hn2
 have v3 := slv hn3
 have v4 := slv hn4
 have R2 := Lib.hid hL.po.row
 have R3 := Lib.hid hL.sg.row
 have R4 := Lib.hid hL.rt.row
 have S1 := Lib.hid (src_sl str_len str_one hL.se)
 obtain ⟨a1, ha1⟩ : ∃ a, L.se.a = a := ⟨_, rfl⟩
 obtain ⟨a2, ha2⟩ : ∃ a, L.po.a = a := ⟨_, rfl⟩
 obtain ⟨a3, ha3⟩ : ∃ a, L.sg.a = a := ⟨_, rfl⟩
 obtain ⟨a4, ha4⟩ : ∃ a, L.rt.a = a := ⟨_, rfl⟩
 obtain ⟨c1, hc1⟩ : ∃ c, L.se.c = c := ⟨_, rfl⟩
 obtain ⟨c2, hc2⟩ : ∃ c, L.po.c = c := ⟨_, rfl⟩
 obtain ⟨c3, hc3⟩ : ∃ c, L.sg.c = c := ⟨_, rfl⟩
 obtain ⟨c4, hc4⟩ : ∃ c, L.rt.c = c := ⟨_, rfl⟩
 rw [ha1, hc1] at v1 S1
 rw [ha2, hc2] at v2
 rw [ha3, hc3] at v3
 rw [ha4, hc4] at v4
 rw [ha2] at R2
 rw [ha3] at R3
 rw [ha4] at R4
 rw [v1, v2, v3, v4]
 have N1 := Lib.hid hn1
 have N2 := Lib.hid hn2
 have N3 := Lib.hid hn3
 have N4 := Lib.hid hn4
 clear hn1 hn2 hn3 hn4 ha1 ha2 ha3 ha4 hc1 hc2 hc3 hc4 v1 v2 v3 v4 hL hs
 obtain ⟨gl, hgl⟩ : ∃ g, g = w.heap.size := ⟨_, rfl⟩
 obtain ⟨i0, hi, hz0, hz1, hz2⟩ := info_parts info_str
 have HI := Lib.hid (And.intro hi (And.intro hz0 (And.intro hz1 hz2)))
 clear hi hz0 hz1 hz2
 obtain ⟨W, hW⟩ : ∃ W, W = w.alloc (.cells #[.slice a1 n1 c1, .slice a2 n2 c2, .slice a3 n3 c3, .slice a4 n4 c4] 27) := ⟨_, rfl⟩
 have hBW := below1 w (.cells #[.slice a1 n1 c1, .slice a2 n2 c2, .slice a3 n3 c3, .slice a4 n4 c4] 27)
 have hlay : W.heap[gl]? = some (.cells #[.slice a1 n1 c1, .slice a2 n2 c2, .slice a3 n3 c3, .slice a4 n4 c4] 27) := by rw [hW, hgl]; exact alloc1 w _ (Below.refl _ _)
 rw [← hW] at hBW
 have HBW := Lib.hid hBW
 have HLY := Lib.hid hlay
 have HSS := Lib.hid (srcAt_below S1.out hBW)
 have HW := Lib.hid hW
 have HGL := Lib.hid hgl
 clear hBW hlay hW S1
 go_enter Try.func72, Try.ntmps72
 go_upto_region 1 with fail
 rw [← HW.out, ← hgl]
 clear hgl
 obtain ⟨l0, l1, l2, l3⟩ : W.cell? ⟨gl, 0, none⟩ = some (.slice a1 n1 c1) ∧ W.cell? ⟨gl, 1, none⟩ = some (.slice a2 n2 c2) ∧ W.cell? ⟨gl, 2, none⟩ = some (.slice a3 n3 c3) ∧ W.cell? ⟨gl, 3, none⟩ = some (.slice a4 n4 c4) := ⟨blk_cell HLY.out 0 _ rfl, blk_cell HLY.out 1 _ rfl, blk_cell HLY.out 2 _ rfl, blk_cell HLY.out 3 _ rfl⟩
 go_wp2_with (at_builtin; refine wpList_append_src rfl _ _ 22 rfl W.heap.size 9 i0 (.string ⟨#[]⟩) 1 16 Try.underlying22 HI.out.1 HI.out.2.1 HI.out.2.2.1 HI.out.2.2.2 rfl (by decide) (.slice none 0 0) 0 [] rfl (World.ownsRow_nil _ _ _ _) a1 n1 c1 (L.se.l.flatMap strC) rfl (by rw [flat_len str_len, N1.out]) HSS.out (by have := HXX.out; unfold maxLen; omega) (by have := HXX.out; omega) (Nat.le_refl _) ?_; intro v4 W4 hown4 hg4; have hB4 : Below W.heap.size W W4 := (Below.refl _ W).grown hg4 (Nat.le_refl _) (fun k hk => by cases hk); rw [List.nil_append, Nat.zero_add] at hown4; have HO := Lib.hid hown4; have HB := Lib.hid hB4; clear hown4 hg4 hB4 l0 l1 l2 l3)
 rw [n1_eq] at HO
 go_wp2_with fail
 go_loopg [3, 4] n2 (fun g v i wr => ∃ k : Nat, k + g = n2 ∧ i = .int .i64 (k : Int) ∧ wr.ownsRow W.heap.size 9 1 v (n1 + k) ((L.n1 ++ (L.po.l.take k).map (·.1)).flatMap strC) ∧ Below W.heap.size W wr)
 case atStart => exact ⟨0, by omega, rfl, by rw [List.take_zero, List.map_nil, List.append_nil]; exact HO.out, HB.out⟩
 case round =>
  obtain ⟨k, hk, rfl, hO, hbw⟩ := hrel
  clear HO HB
  have HB := Lib.hid hbw
  have HO := Lib.hid hO
  clear hbw hO
  obtain ⟨l0, l1, l2, l3⟩ : wr.cell? ⟨gl, 0, none⟩ = some (.slice a1 n1 c1) ∧ wr.cell? ⟨gl, 1, none⟩ = some (.slice a2 n2 c2) ∧ wr.cell? ⟨gl, 2, none⟩ = some (.slice a3 n3 c3) ∧ wr.cell? ⟨gl, 3, none⟩ = some (.slice a4 n4 c4) := by
   have q := blk_keep HB.out HLY.out
   exact ⟨blk_cell q 0 _ rfl, blk_cell q 1 _ rfl, blk_cell q 2 _ rfl, blk_cell q 3 _ rfl⟩
  by_cases hlt : k < n2
  ·obtain ⟨y, hy⟩ : ∃ y, L.po.l[k]? = some y := ⟨_, List.getElem?_eq_getElem (by rw [N2.out]; exact hlt)⟩
   rcases R2.out.below (below_on HBW.out HB.out) with hnil | ⟨xb, off, rfl, hc⟩
   ·rw [hnil] at hy; simp at hy
   obtain ⟨z, hz⟩ : ∃ z, y.1 = z := ⟨_, rfl⟩
   have z0 := hc k _ hy 0 (.string z) (by rw [← hz]; rfl)
   rw [Nat.add_zero] at z0
   have HY := Lib.hid hy
   have HZ := Lib.hid hz
   have d1 : (0 : Int) ≤ k := by omega
   have d2 : (k : Int) < n2 := by omega
   have e1 : wrap64 ((k : Int) + 1) = (k : Int) + 1 := by have := HXX.out; unfold wrap64; omega
   have HK := Lib.hid hk
   have HOW := Lib.hid (own_below (below1 wr (Obj.cells #[.string z] 9)) HO.out)
   have HSR := Lib.hid (src_one (u := .string z) rfl (alloc1 wr (Obj.cells #[.string z] 9) (Below.refl _ _)))
   clear hc hy hk hz
   go_wp2_with (at_builtin; refine wpList_append_src rfl _ _ 22 rfl W.heap.size 9 i0 (.string ⟨#[]⟩) 1 16 Try.underlying22 HI.out.1 HI.out.2.1 HI.out.2.2.1 HI.out.2.2.2 rfl (by decide) _ (n1 + k) ((L.n1 ++ (L.po.l.take k).map (·.1)).flatMap strC) rfl HOW.out (some ⟨wr.heap.size, 0, none⟩) 1 1 [.string z] rfl rfl HSR.out (by have := HXX.out; have := HK.out; unfold maxLen; omega) (by have := HXX.out; have := HK.out; omega) (by have := HB.out.size; simp; omega) ?_; intro v5 W5 hown5 hg5)
   have hB7 : Below W.heap.size W W5 := (HB.out.alloc HB.out.size _).grown hg5 (by have := HB.out.size; simp; omega) (fun k hk => (HOW.out.lt _ hk).1)
   go_roundg (n2 - (k + 1))
   case rel => exact ⟨k + 1, by have := HK.out; omega, by go_num, by rw [nm_take HY.out, HZ.out]; exact hown5, hB7⟩
   case measure => have := HK.out; omega
  ·have hkn : n2 = k := by omega
   subst hkn
   have hfull : L.po.l.take n2 = L.po.l := List.take_of_length_le (by rw [N2.out]; exact Nat.le_refl _)
   rw [hfull, n2_eq] at HO
   clear hfull
   obtain ⟨wq2, hwq⟩ : ∃ W, W = wr := ⟨_, rfl⟩
   rw [← hwq] at HO HB l0 l1 l2 l3 ⊢
   clear hwq
   go_wp2_with fail
   go_loopg [3, 5] n3 (fun g v i wr => ∃ k : Nat, k + g = n3 ∧ i = .int .i64 (k : Int) ∧ wr.ownsRow W.heap.size 9 1 v ((n1 + n2) + k) ((L.n2 ++ (L.sg.l.take k).map (·.1)).flatMap strC) ∧ Below W.heap.size W wr)
   case atStart => exact ⟨0, by omega, rfl, by rw [List.take_zero, List.map_nil, List.append_nil]; exact HO.out, HB.out⟩
   case round =>
    obtain ⟨k, hk, rfl, hO, hbw⟩ := hrel
    clear HO HB
    have HB := Lib.hid hbw
    have HO := Lib.hid hO
    clear hbw hO
    obtain ⟨l0, l1, l2, l3⟩ : wr.cell? ⟨gl, 0, none⟩ = some (.slice a1 n1 c1) ∧ wr.cell? ⟨gl, 1, none⟩ = some (.slice a2 n2 c2) ∧ wr.cell? ⟨gl, 2, none⟩ = some (.slice a3 n3 c3) ∧ wr.cell? ⟨gl, 3, none⟩ = some (.slice a4 n4 c4) := by
     have q := blk_keep HB.out HLY.out
     exact ⟨blk_cell q 0 _ rfl, blk_cell q 1 _ rfl, blk_cell q 2 _ rfl, blk_cell q 3 _ rfl⟩
    by_cases hlt : k < n3
    ·obtain ⟨y, hy⟩ : ∃ y, L.sg.l[k]? = some y := ⟨_, List.getElem?_eq_getElem (by rw [N3.out]; exact hlt)⟩
     rcases R3.out.below (below_on HBW.out HB.out) with hnil | ⟨xb, off, rfl, hc⟩
     ·rw [hnil] at hy; simp at hy
     obtain ⟨z, hz⟩ : ∃ z, y.1 = z := ⟨_, rfl⟩
     have z0 := hc k _ hy 0 (.string z) (by rw [← hz]; rfl)
     rw [Nat.add_zero] at z0
     have HY := Lib.hid hy
     have HZ := Lib.hid hz
     have d1 : (0 : Int) ≤ k := by omega
     have d2 : (k : Int) < n3 := by omega
     have e1 : wrap64 ((k : Int) + 1) = (k : Int) + 1 := by have := HXX.out; unfold wrap64; omega
     have HK := Lib.hid hk
     have HOW := Lib.hid (own_below (below1 wr (Obj.cells #[.string z] 9)) HO.out)
     have HSR := Lib.hid (src_one (u := .string z) rfl (alloc1 wr (Obj.cells #[.string z] 9) (Below.refl _ _)))
     clear hc hy hk hz
     go_wp2_with (at_builtin; refine wpList_append_src rfl _ _ 22 rfl W.heap.size 9 i0 (.string ⟨#[]⟩) 1 16 Try.underlying22 HI.out.1 HI.out.2.1 HI.out.2.2.1 HI.out.2.2.2 rfl (by decide) _ ((n1 + n2) + k) ((L.n2 ++ (L.sg.l.take k).map (·.1)).flatMap strC) rfl HOW.out (some ⟨wr.heap.size, 0, none⟩) 1 1 [.string z] rfl rfl HSR.out (by have := HXX.out; have := HK.out; unfold maxLen; omega) (by have := HXX.out; have := HK.out; omega) (by have := HB.out.size; simp; omega) ?_; intro v5 W5 hown5 hg5)
     have hB7 : Below W.heap.size W W5 := (HB.out.alloc HB.out.size _).grown hg5 (by have := HB.out.size; simp; omega) (fun k hk => (HOW.out.lt _ hk).1)
     go_roundg (n3 - (k + 1))
     case rel => exact ⟨k + 1, by have := HK.out; omega, by go_num, by rw [nm_take HY.out, HZ.out]; exact hown5, hB7⟩
     case measure => have := HK.out; omega
    ·have hkn : n3 = k := by omega
     subst hkn
     have hfull : L.sg.l.take n3 = L.sg.l := List.take_of_length_le (by rw [N3.out]; exact Nat.le_refl _)
     rw [hfull, n3_eq] at HO
     clear hfull
     obtain ⟨wq3, hwq⟩ : ∃ W, W = wr := ⟨_, rfl⟩
     rw [← hwq] at HO HB l0 l1 l2 l3 ⊢
     clear hwq
     go_wp2_with fail
     go_loopg [3, 6] n4 (fun g v i wr => ∃ k : Nat, k + g = n4 ∧ i = .int .i64 (k : Int) ∧ wr.ownsRow W.heap.size 9 1 v ((n1 + n2 + n3) + k) ((L.n3 ++ (L.rt.l.take k).map (·.nm)).flatMap strC) ∧ Below W.heap.size W wr)
     case atStart => exact ⟨0, by omega, rfl, by rw [List.take_zero, List.map_nil, List.append_nil]; exact HO.out, HB.out⟩
     case round =>
      obtain ⟨k, hk, rfl, hO, hbw⟩ := hrel
      clear HO HB
      have HB := Lib.hid hbw
      have HO := Lib.hid hO
      clear hbw hO
      obtain ⟨l0, l1, l2, l3⟩ : wr.cell? ⟨gl, 0, none⟩ = some (.slice a1 n1 c1) ∧ wr.cell? ⟨gl, 1, none⟩ = some (.slice a2 n2 c2) ∧ wr.cell? ⟨gl, 2, none⟩ = some (.slice a3 n3 c3) ∧ wr.cell? ⟨gl, 3, none⟩ = some (.slice a4 n4 c4) := by
       have q := blk_keep HB.out HLY.out
       exact ⟨blk_cell q 0 _ rfl, blk_cell q 1 _ rfl, blk_cell q 2 _ rfl, blk_cell q 3 _ rfl⟩
      by_cases hlt : k < n4
      ·obtain ⟨y, hy⟩ : ∃ y, L.rt.l[k]? = some y := ⟨_, List.getElem?_eq_getElem (by rw [N4.out]; exact hlt)⟩
       rcases R4.out.below (below_on HBW.out HB.out) with hnil | ⟨xb, off, rfl, hc⟩
       ·rw [hnil] at hy; simp at hy
       obtain ⟨z, hz⟩ : ∃ z, y.nm = z := ⟨_, rfl⟩
       have z0 := hc k _ hy 0 (.string z) (by rw [← hz]; rfl)
       rw [Nat.add_zero] at z0
       have HY := Lib.hid hy
       have HZ := Lib.hid hz
       have d1 : (0 : Int) ≤ k := by omega
       have d2 : (k : Int) < n4 := by omega
       have e1 : wrap64 ((k : Int) + 1) = (k : Int) + 1 := by have := HXX.out; unfold wrap64; omega
       have HK := Lib.hid hk
       have HOW := Lib.hid (own_below (below1 wr (Obj.cells #[.string z] 9)) HO.out)
       have HSR := Lib.hid (src_one (u := .string z) rfl (alloc1 wr (Obj.cells #[.string z] 9) (Below.refl _ _)))
       clear hc hy hk hz
       go_wp2_with (at_builtin; refine wpList_append_src rfl _ _ 22 rfl W.heap.size 9 i0 (.string ⟨#[]⟩) 1 16 Try.underlying22 HI.out.1 HI.out.2.1 HI.out.2.2.1 HI.out.2.2.2 rfl (by decide) _ ((n1 + n2 + n3) + k) ((L.n3 ++ (L.rt.l.take k).map (·.nm)).flatMap strC) rfl HOW.out (some ⟨wr.heap.size, 0, none⟩) 1 1 [.string z] rfl rfl HSR.out (by have := HXX.out; have := HK.out; unfold maxLen; omega) (by have := HXX.out; have := HK.out; omega) (by have := HB.out.size; simp; omega) ?_; intro v5 W5 hown5 hg5)
       have hB7 : Below W.heap.size W W5 := (HB.out.alloc HB.out.size _).grown hg5 (by have := HB.out.size; simp; omega) (fun k hk => (HOW.out.lt _ hk).1)
       go_roundg (n4 - (k + 1))
       case rel => exact ⟨k + 1, by have := HK.out; omega, by go_num, by rw [nm_take HY.out, HZ.out]; exact hown5, hB7⟩
       case measure => have := HK.out; omega
      ·have hkn : n4 = k := by omega
       subst hkn
       have hfull : L.rt.l.take n4 = L.rt.l := List.take_of_length_le (by rw [N4.out]; exact Nat.le_refl _)
       rw [hfull, all_eq] at HO
       clear hfull
       obtain ⟨wq4, hwq⟩ : ∃ W, W = wr := ⟨_, rfl⟩
       rw [← hwq] at HO HB l0 l1 l2 l3 ⊢
       clear hwq
       have hlen : L.all.length = n1 + n2 + n3 + n4 := all_len N1.out N2.out N3.out N4.out
       obtain ⟨a, c, rfl, hS⟩ := own_sl str_len hlen HO.out
       have HS := Lib.hid hS
       have HLN := Lib.hid hlen
       clear hS hlen
       go_wp2_with fail
       go_ret
       exact ⟨a, _, c, rfl, HLN.out.symm, HS.out, below_on HBW.out HB.out⟩
end Go.Proofs.Ytjienmjpfklgeaa
namespace Go.Proofs.Ytjienmjpfklgeaa
open Go.RowKit
set_option maxRecDepth 100000

theorem wpAnyH_re {P : Program} {md : Region.Mode} {ops : Array Oper} {Q : Exit → Act → World → Prop} {S : World → Prop} {w : World} {F : Nat} {l : Array Bool} {a : Act} (F' : Nat) (l' : Array Bool) (hF : F = F') (hl : l = l') (h : wpAnyH P md ops Q S F' l' a w) : wpAnyH P md ops Q S F l a w := by rw [hF, hl]; exact h
theorem pts16 (P : Nat) (l : List (Int × Bool)) : inS P ((l.map (·.1)).take 17) = mayB P l := by
 unfold inS mayB
 by_cases h : l.length ≤ 16
 ·rw [List.take_of_length_le (by rw [List.length_map]; omega), List.length_map]
 ·rw [decide_eq_false h, decide_eq_false (by rw [List.length_take, List.length_map]; omega)]; rfl
def rrtB (G S P : Nat) (r : Rt) : Bool := decide (0 ≤ r.sg ∧ r.sg < (G : Int)) && (inS S r.pa.l && (inS S r.ov.l && (mayB P r.po.l && mayB P r.fl.l)))
theorem rrtB_eq (G S P : Nat) (r : Rt) : rrtB G S P r = (decide (0 ≤ r.sg ∧ r.sg < (G : Int)) && rtB S P r) := by
 unfold rrtB rtB inS
 cases decide (0 ≤ r.sg ∧ r.sg < (G : Int)) <;> cases decide (r.pa.l.length ≤ 16) <;> cases decide (r.ov.l.length ≤ 16) <;> cases belowB S r.pa.l <;> cases belowB S r.ov.l <;> simp
theorem all_rrt (G S P : Nat) (l : List Rt) : l.all (rrtB G S P) = (belowB G (l.map (·.sg)) && l.all (rtB S P)) := by
 induction l with
 | nil => rfl
 | cons r l ih =>
   have e : belowB G ((r :: l).map (·.sg)) = (decide (0 ≤ r.sg ∧ r.sg < (G : Int)) && belowB G (l.map (·.sg))) := by unfold belowB; rfl
   rw [List.all_cons, List.all_cons, ih, rrtB_eq, e]
   cases decide (0 ≤ r.sg ∧ r.sg < (G : Int)) <;> cases rtB S P r <;> cases belowB G (l.map (·.sg)) <;> simp
theorem may_eq (L : Lay) : mayS L = (L.small && (nmsFrom [] L.all && (belowB L.se.l.length (L.po.l.map (·.2)) && (belowB L.se.l.length (L.sg.l.map (·.2)) && L.rt.l.all (rrtB L.sg.l.length L.se.l.length L.po.l.length))))) := by
 unfold mayS ptsFrom rtsFrom
 rw [all_rrt]
 have h1 : nmsFrom [] L.all = (nmsFrom [] L.se.l && (nmsFrom L.n1 (L.po.l.map (·.1)) && (nmsFrom L.n2 (L.sg.l.map (·.1)) && nmsFrom L.n3 (L.rt.l.map (·.nm))))) := by
  unfold Lay.all
  rw [nms_append, List.nil_append]
  unfold Lay.n3
  rw [nms_append, List.nil_append]
  unfold Lay.n2
  rw [nms_append, List.nil_append]
  unfold Lay.n1
  rw [Bool.and_assoc, Bool.and_assoc]
 rw [h1]
 cases L.small <;> cases nmsFrom [] L.se.l <;> cases nmsFrom L.n1 (L.po.l.map (·.1)) <;> cases nmsFrom L.n2 (L.sg.l.map (·.1)) <;> cases nmsFrom L.n3 (L.rt.l.map (·.nm)) <;> cases belowB L.se.l.length (L.po.l.map (·.2)) <;> cases belowB L.se.l.length (L.sg.l.map (·.2)) <;> simp
theorem nms_all {l : List BA} (h : ∀ k s, l[k]? = some s → okNm (l.take k) s = true) : nmsFrom [] l = true := by
 have : ∀ k, k ≤ l.length → nmsFrom [] (l.take k) = true := by
  intro k
  induction k with
  | zero => intro _; rfl
  | succ k ih =>
    intro hk
    have hg : l[k]? = some (l[k]'(by omega)) := List.getElem?_eq_getElem _
    rw [nms_take hg, ih (by omega), List.nil_append, h k _ hg]; rfl
 have h2 := this l.length (Nat.le_refl _)
 rwa [List.take_length] at h2
theorem nms_bad {l : List BA} {k : Nat} {s : BA} (hg : l[k]? = some s) (h : okNm (l.take k) s = false) : nmsFrom [] l = false := by
 have h1 : nmsFrom [] (l.take (k + 1)) = false := by rw [nms_take hg, List.nil_append, h, Bool.and_false]
 rw [← List.take_append_drop (k + 1) l, nms_append, h1]; rfl
theorem all_bad {G S P : Nat} {l : List Rt} {k : Nat} {r : Rt} (hg : l[k]? = some r) (h : rrtB G S P r = false) : l.all (rrtB G S P) = false := by
 rw [List.all_eq_false]; exact ⟨r, List.mem_of_getElem? hg, by rw [h]; decide⟩
theorem all_take {G S P : Nat} {l : List Rt} {k : Nat} {r : Rt} (hg : l[k]? = some r) (h : rrtB G S P r = true) (hs : (l.take k).all (rrtB G S P) = true) : (l.take (k + 1)).all (rrtB G S P) = true := by
 rw [List.take_add_one, hg, List.all_append, hs]; simp [h]
theorem rr_1 {G S P : Nat} {r : Rt} (h : decide (0 ≤ r.sg ∧ r.sg < (G : Int)) = false) : rrtB G S P r = false := by unfold rrtB; rw [h]; rfl
theorem rr_2 {G S P : Nat} {r : Rt} (h : inS S r.pa.l = false) : rrtB G S P r = false := by unfold rrtB; rw [h]; simp
theorem rr_3 {G S P : Nat} {r : Rt} (h : inS S r.ov.l = false) : rrtB G S P r = false := by unfold rrtB; rw [h]; simp
theorem rr_4 {G S P : Nat} {r : Rt} (h : mayB P r.po.l = false) : rrtB G S P r = false := by unfold rrtB; rw [h]; simp
theorem rr_5 {G S P : Nat} {r : Rt} (h : mayB P r.fl.l = false) : rrtB G S P r = false := by unfold rrtB; rw [h]; simp
theorem rr_6 {G S P : Nat} {r : Rt} (h1 : decide (0 ≤ r.sg ∧ r.sg < (G : Int)) = true) (h2 : inS S r.pa.l = true) (h3 : inS S r.ov.l = true) (h4 : mayB P r.po.l = true) (h5 : mayB P r.fl.l = true) : rrtB G S P r = true := by unfold rrtB; rw [h1, h2, h3, h4, h5]; rfl
theorem ok_of {pre : List BA} {s : BA} {b : Bool} (h1 : rightS s = true) (h2 : hasN pre s = b) : okNm pre s = !b := by unfold okNm; rw [h1, h2]; rfl
theorem may_no1 {L : Lay} (h : L.small = false) : mayS L = false := by rw [may_eq, h]; rfl
theorem may_no2 {L : Lay} (h : nmsFrom [] L.all = false) : mayS L = false := by rw [may_eq, h]; simp
theorem may_no3 {L : Lay} (h : belowB L.se.l.length (L.po.l.map (·.2)) = false) : mayS L = false := by rw [may_eq, h]; simp
theorem may_no4 {L : Lay} (h : belowB L.se.l.length (L.sg.l.map (·.2)) = false) : mayS L = false := by rw [may_eq, h]; simp
theorem may_no5 {L : Lay} (h : L.rt.l.all (rrtB L.sg.l.length L.se.l.length L.po.l.length) = false) : mayS L = false := by rw [may_eq, h]; simp
theorem may_yes {L : Lay} (h0 : L.small = true) (h1 : nmsFrom [] L.all = true) (h2 : belowB L.se.l.length (L.po.l.map (·.2)) = true) (h3 : belowB L.se.l.length (L.sg.l.map (·.2)) = true) (h4 : L.rt.l.all (rrtB L.sg.l.length L.se.l.length L.po.l.length) = true) : mayS L = true := by rw [may_eq, h0, h1, h2, h3, h4]; rfl
theorem rright_to (b : Bool) (s : BA) (w : World) (hs : s.size ≤ maxLen) (h : rightS s = b) : Calls Try.prog 73 #[.string s] w fun e w' => e = .returned (.bool b) ∧ Below w.heap.size w w' := h ▸ rright_is s w hs
theorem full_to (b : Bool) (L : Lay) (w : World) (h : (!L.small) = b) : Calls Try.prog 71 #[.agg #[L.se.v, L.po.v, L.sg.v, L.rt.v]] w fun e w' => e = .returned (.bool b) ∧ Below w.heap.size w w' := h ▸ full_is L w
/-- the layout's copy -/
structure LcAt (w0 w : World) (gl : Nat) (L : Lay) : Prop where
 lay : w.heap[gl]? = some (.cells #[L.se.v, L.po.v, L.sg.v, L.rt.v] 27)
 below : Below w0.heap.size w0 w
theorem LcAt.step {w0 w w' : World} {gl : Nat} {L : Lay} (h : LcAt w0 w gl L) (hb : Below w.heap.size w w') : LcAt w0 w' gl L := ⟨blk_keep hb h.lay, h.below.trans (hb.mono h.below.size)⟩
theorem name_ok {L : Lay} {w : World} (h : LayAt w L) : ∀ s ∈ L.all, s.size ≤ maxLen := by
 intro s hs
 unfold Lay.all Lay.n3 Lay.n2 at hs
 simp only [List.mem_append, List.mem_map] at hs
 rcases hs with ((hs | ⟨p, hp, rfl⟩) | ⟨p, hp, rfl⟩) | ⟨p, hp, rfl⟩
 ·exact h.sn s hs
 ·exact h.pn p hp
 ·exact h.gn p hp
 ·exact (h.rn p hp).nm
attribute [local irreducible] belowB mayB okNm nmsFrom ptsFrom rtsFrom rtB rrtB hasN rightS mayS inS fI Lay.small Lay.n1 Lay.n2 Lay.n3 Lay.all Sl.v
set_option maxRecDepth 100000 in
set_option maxHeartbeats 200000000 in
theorem rmay_lay (L : Lay) (w : World) (hL : LayAt w L) : Calls Try.prog 36 #[.agg #[L.se.v, L.po.v, L.sg.v, L.rt.v]] w fun e w' => e = .returned (.bool (mayS L)) ∧ Below w.heap.size w w' := by
 have HA := Lib.hid hL
 obtain ⟨n1, hn1⟩ : ∃ n, L.se.l.length = n := ⟨_, rfl⟩
 obtain ⟨n2, hn2⟩ : ∃ n, L.po.l.length = n := ⟨_, rfl⟩
 obtain ⟨n3, hn3⟩ : ∃ n, L.sg.l.length = n := ⟨_, rfl⟩
 obtain ⟨n4, hn4⟩ : ∃ n, L.rt.l.length = n := ⟨_, rfl⟩
 have v1 := slv hn1
 have v2 := slv hn2
 have v3 := slv hn3
 have v4 := slv hn4
 have R2 := Lib.hid hL.po.row
 have R3 := Lib.hid hL.sg.row
 have R4 := Lib.hid hL.rt.row
 obtain ⟨a1, ha1⟩ : ∃ a, L.se.a = a := ⟨_, rfl⟩
 obtain ⟨a2, ha2⟩ : ∃ a, L.po.a = a := ⟨_, rfl⟩
 obtain ⟨a3, ha3⟩ : ∃ a, L.sg.a = a := ⟨_, rfl⟩
 obtain ⟨a4, ha4⟩ : ∃ a, L.rt.a = a := ⟨_, rfl⟩
 obtain ⟨c1, hc1⟩ : ∃ c, L.se.c = c := ⟨_, rfl⟩
 obtain ⟨c2, hc2⟩ : ∃ c, L.po.c = c := ⟨_, rfl⟩
 obtain ⟨c3, hc3⟩ : ∃ c, L.sg.c = c := ⟨_, rfl⟩
 obtain ⟨c4, hc4⟩ : ∃ c, L.rt.c = c := ⟨_, rfl⟩
 rw [ha1, hc1] at v1
 rw [ha2, hc2] at v2
 rw [ha3, hc3] at v3
 rw [ha4, hc4] at v4
 rw [ha2] at R2
 rw [ha3] at R3
 rw [ha4] at R4
 have FU : Hid (∀ b, (!L.small) = b → ∀ W, Calls Try.prog 71 #[.agg #[.slice a1 n1 c1, .slice a2 n2 c2, .slice a3 n3 c3, .slice a4 n4 c4]] W fun e w' => e = .returned (.bool b) ∧ Below W.heap.size W w') := Lib.hid (fun b hb W => by have := full_to b L W hb; rwa [v1, v2, v3, v4] at this)
 have NA : Hid (L.small = true → ∀ W, Below w.heap.size w W → Calls Try.prog 72 #[.agg #[.slice a1 n1 c1, .slice a2 n2 c2, .slice a3 n3 c3, .slice a4 n4 c4]] W fun e w' => ∃ a n c, e = .returned (.slice a n c) ∧ n = L.all.length ∧ SlAt 1 strC w' ⟨a, c, L.all⟩ ∧ Below W.heap.size W w') := Lib.hid (fun hs W hb => by have := names_is L W (hL.below hb) hs; rwa [v1, v2, v3, v4] at this)
 rw [v1, v2, v3, v4]
 have N1 := Lib.hid hn1
 have N2 := Lib.hid hn2
 have N3 := Lib.hid hn3
 have N4 := Lib.hid hn4
 have HV := Lib.hid (And.intro v1 (And.intro v2 (And.intro v3 v4)))
 clear hn1 hn2 hn3 hn4 ha1 ha2 ha3 ha4 hc1 hc2 hc3 hc4 v1 v2 v3 v4 hL
 obtain ⟨gl, hgl⟩ : ∃ g, g = w.heap.size := ⟨_, rfl⟩
 have HGL := Lib.hid hgl
 have HCL : Hid (∀ W, LcAt w W gl L → W.cell? ⟨gl, 0, none⟩ = some (.slice a1 n1 c1) ∧ W.cell? ⟨gl, 1, none⟩ = some (.slice a2 n2 c2) ∧ W.cell? ⟨gl, 2, none⟩ = some (.slice a3 n3 c3) ∧ W.cell? ⟨gl, 3, none⟩ = some (.slice a4 n4 c4)) := Lib.hid (fun W h => by
  obtain ⟨v1, v2, v3, v4⟩ := HV.out
  rw [← v1, ← v2, ← v3, ← v4]
  exact ⟨blk_cell h.lay 0 _ rfl, blk_cell h.lay 1 _ rfl, blk_cell h.lay 2 _ rfl, blk_cell h.lay 3 _ rfl⟩)
 obtain ⟨W, hW⟩ : ∃ W, W = w.alloc (.cells #[.slice a1 n1 c1, .slice a2 n2 c2, .slice a3 n3 c3, .slice a4 n4 c4] 27) := ⟨_, rfl⟩
 have HM : Hid (LcAt w W gl L) := Lib.hid (by
  obtain ⟨v1, v2, v3, v4⟩ := HV.out
  rw [hW, hgl]
  exact ⟨by rw [v1, v2, v3, v4]; exact alloc1 w _ (Below.refl _ _), below1 _ _⟩)
 go_enter Try.func36, Try.ntmps36
 go_upto_region 1 with fail
 rw [← hW, ← hgl]
 clear hW hgl
 obtain ⟨l0, l1, l2, l3⟩ : W.cell? ⟨gl, 0, none⟩ = some (.slice a1 n1 c1) ∧ W.cell? ⟨gl, 1, none⟩ = some (.slice a2 n2 c2) ∧ W.cell? ⟨gl, 2, none⟩ = some (.slice a3 n3 c3) ∧ W.cell? ⟨gl, 3, none⟩ = some (.slice a4 n4 c4) := HCL.out _ HM.out
 rcases Bool.eq_false_or_eq_true L.small with hsm | hsm
 case inr =>
  have HF := Lib.hid (may_no1 hsm)
  have HS := Lib.hid hsm
  clear hsm
  go_wp2_with fail
  refine (FU.out true (by rw [HS.out]; rfl) _).mono ?_
  rintro e w5 ⟨rfl, hb5⟩
  have HM5 := Lib.hid (HM.out.step hb5)
  clear hb5
  go_wp2_with fail
  go_ret
  exact ⟨by rw [HF.out]; rfl, HM5.out.below⟩
 have HS := Lib.hid hsm
 have HXX := Lib.hid (small_get hsm)
 rw [N1.out, N2.out, N3.out, N4.out] at HXX
 clear hsm
 go_wp2_with fail
 refine (FU.out false (by rw [HS.out]; rfl) _).mono ?_
 rintro e w5 ⟨rfl, hb5⟩
 have HM5 := Lib.hid (HM.out.step hb5)
 clear hb5 HM l0 l1 l2 l3 FU
 obtain ⟨l0, l1, l2, l3⟩ : w5.cell? ⟨gl, 0, none⟩ = some (.slice a1 n1 c1) ∧ w5.cell? ⟨gl, 1, none⟩ = some (.slice a2 n2 c2) ∧ w5.cell? ⟨gl, 2, none⟩ = some (.slice a3 n3 c3) ∧ w5.cell? ⟨gl, 3, none⟩ = some (.slice a4 n4 c4) := HCL.out _ HM5.out
 go_wp2_with fail
 refine (NA.out HS.out _ HM5.out.below).mono ?_
 rintro e w6 ⟨aN, nN, cN, rfl, hnN, hSN, hb6⟩
 have HM := Lib.hid (HM5.out.step hb6)
 have HSN := Lib.hid hSN
 have hnb : nN ≤ 192 := by rw [hnN, all_len N1.out N2.out N3.out N4.out]; have := HXX.out; omega
 have hcb := hSN.len
 have hcm := hSN.cap
 dsimp only at hcb hcm
 rw [← hnN] at hcb
 have hcm2 : cN ≤ 9223372036854775807 := by unfold maxLen at hcm; exact hcm
 have HNB := Lib.hid (And.intro hnN (And.intro hnb (And.intro hcb hcm2)))
 clear hb6 HM5 l0 l1 l2 l3 NA hSN hnN hnb hcb hcm hcm2
 obtain ⟨l0, l1, l2, l3⟩ : w6.cell? ⟨gl, 0, none⟩ = some (.slice a1 n1 c1) ∧ w6.cell? ⟨gl, 1, none⟩ = some (.slice a2 n2 c2) ∧ w6.cell? ⟨gl, 2, none⟩ = some (.slice a3 n3 c3) ∧ w6.cell? ⟨gl, 3, none⟩ = some (.slice a4 n4 c4) := HCL.out _ HM.out
 go_wp2_with fail
 clear l0 l1 l2 l3
 go_loopg [4] nN (fun g i wr => ∃ k : Nat, k + g = nN ∧ i = .int .i64 (k : Int) ∧ (∀ j s, j < k → L.all[j]? = some s → okNm (L.all.take j) s = true) ∧ LcAt w wr gl L ∧ Below w6.heap.size w6 wr)
 case atStart => exact ⟨0, by omega, rfl, fun j s h => by omega, HM.out, Below.refl _ _⟩
 case round =>
  obtain ⟨k, hk, rfl, hst, hM, hbw⟩ := hrel
  clear HM
  have HM := Lib.hid hM
  have HST := Lib.hid hst
  have HBW := Lib.hid hbw
  have HK := Lib.hid hk
  clear hst hM hbw
  by_cases hlt : k < nN
  ·obtain ⟨y, hy⟩ : ∃ y, L.all[k]? = some y := ⟨_, List.getElem?_eq_getElem (by have := HNB.out.1; omega)⟩
   have hrow := HSN.out.row.below HBW.out
   dsimp only at hrow
   have HROW := Lib.hid hrow
   rcases hrow with hnil | ⟨xb, off, rfl, hc⟩
   ·rw [hnil] at hy; simp at hy
   have z0 := hc k y hy 0 (.string y) (by unfold strC; rfl)
   rw [Nat.add_zero, Nat.mul_one] at z0
   have HY := Lib.hid hy
   have HN := Lib.hid (name_ok HA.out y (List.mem_of_getElem? hy))
   have HTK : Hid ((L.all.take k).length = k) := Lib.hid (by rw [List.length_take]; have := HNB.out.1; omega)
   have d1 : (0 : Int) ≤ k := by omega
   have d2 : (k : Int) < nN := by omega
   have d3 : (k : Int) ≤ cN := by have := HNB.out; omega
   have d4 : k ≤ cN := by have := HNB.out; omega
   have e1 : wrap64 ((k : Int) + 1) = (k : Int) + 1 := by have := HNB.out; unfold wrap64; omega
   clear hc hy hk
   rcases Bool.eq_false_or_eq_true (rightS y) with hr | hr
   ·have HR := Lib.hid hr
    clear hr
    obtain ⟨z, hz⟩ : ∃ z, fI 0 (L.all.take k) y = z := ⟨_, rfl⟩
    have HZ := Lib.hid hz
    have hfi := fI_iff (L.all.take k) 0 y
    rw [hz] at hfi
    clear hz
    have k1 : ∀ w', Below wr.heap.size wr w' → Calls Try.prog 73 #[.string y] w' fun e w'' => e = .returned (.bool true) ∧ Below wr.heap.size wr w'' :=
     fun w' hw' => (rright_to true y w' HN.out HR.out).mono (fun e w9 ⟨h1, h2⟩ => ⟨h1, below_on hw' h2⟩)
    have k2 : ∀ w', Below wr.heap.size wr w' → Calls Try.prog 74 #[.slice (some ⟨xb, off, none⟩) k cN, .string y] w' fun e w'' => e = .returned (.int .i64 z) ∧ Below wr.heap.size wr w'' :=
     fun w' hw' => HZ.out ▸ (find_is _ _ _ (L.all.take k) y w' HTK.out (by have := HNB.out; omega) ((HROW.out.take k).below hw')).mono (fun e w9 ⟨h1, h2⟩ => ⟨h1, h2 ▸ hw'⟩)
    rcases hfi with ⟨f1, f2⟩ | ⟨f1, f2⟩
    ·have HF := Lib.hid (may_no2 (nms_bad HY.out (by rw [ok_of HR.out f2]; rfl)))
     clear f2
     go_upto_region 7 with fail
     refine wp_region_calm (by kernel_rfl) ?_ ?_
     ·kernel_rfl
     repeat first
      | go_big_quiet_skip
      | (go_big_quiet_want; go_big_quiet_op; go_big_quiet_on)
      | (with_reducible apply wpQuiet_step
         intro K hK
         go_simp
         first
          | (refine hK _ ?_; clear hK K)
          | (apply Exists.intro
             refine ⟨fun w' hw' => ?_, hK _ ?_⟩
             ·
              (first
               | with_reducible exact k1 _ hw'
               | with_reducible exact k2 _ hw'
               | (have e0 := cell_later hw' z0
                  go_simp
                  first | done | with_reducible exact rfl | with_reducible exact ⟨rfl, rfl⟩ | with_reducible exact k1 _ hw' | with_reducible exact k2 _ hw'))
             clear hK K))
     refine wpQuiet_nil ?_
     intro w7 hw7
     have HM7 := Lib.hid (HM.out.step hw7)
     clear hw7
     go_wp2_with fail
     go_ret
     exact ⟨by rw [HF.out]; rfl, HM7.out.below⟩
    ·have HX := Lib.hid (show okNm (L.all.take k) y = true by rw [ok_of HR.out f2]; rfl)
     have f3 : ¬ 0 ≤ z := by omega
     clear f1 f2
     go_upto_region 7 with fail
     refine wp_region_calm (by kernel_rfl) ?_ ?_
     ·kernel_rfl
     repeat first
      | go_big_quiet_skip
      | (go_big_quiet_want; go_big_quiet_op; go_big_quiet_on)
      | (with_reducible apply wpQuiet_step
         intro K hK
         go_simp
         first
          | (refine hK _ ?_; clear hK K)
          | (apply Exists.intro
             refine ⟨fun w' hw' => ?_, hK _ ?_⟩
             ·
              (first
               | with_reducible exact k1 _ hw'
               | with_reducible exact k2 _ hw'
               | (have e0 := cell_later hw' z0
                  go_simp
                  first | done | with_reducible exact rfl | with_reducible exact ⟨rfl, rfl⟩ | with_reducible exact k1 _ hw' | with_reducible exact k2 _ hw'))
             clear hK K))
     refine wpQuiet_nil ?_
     intro w7 hw7
     have HM7 := Lib.hid (HM.out.step hw7)
     have HBW7 := Lib.hid (below_on HBW.out hw7)
     clear hw7
     go_wp2_with fail
     go_roundg (nN - (k + 1))
     case rel => exact ⟨k + 1, by have := HK.out; omega, by go_num, fun j s hj hs => by
      rcases Nat.lt_or_ge j k with h | h
      ·exact HST.out j s h hs
      ·obtain rfl : j = k := by omega
       rw [HY.out] at hs; cases hs; exact HX.out, HM7.out, HBW7.out⟩
     case measure => have := HK.out; omega
   ·have HR := Lib.hid hr
    have HF := Lib.hid (may_no2 (nms_bad HY.out (okNm_r hr)))
    clear hr
    obtain ⟨z, hz⟩ : ∃ z, fI 0 (L.all.take k) y = z := ⟨_, rfl⟩
    have HZ := Lib.hid hz
    clear hz
    have k1 : ∀ w', Below wr.heap.size wr w' → Calls Try.prog 73 #[.string y] w' fun e w'' => e = .returned (.bool false) ∧ Below wr.heap.size wr w'' :=
     fun w' hw' => (rright_to false y w' HN.out HR.out).mono (fun e w9 ⟨h1, h2⟩ => ⟨h1, below_on hw' h2⟩)
    have k2 : ∀ w', Below wr.heap.size wr w' → Calls Try.prog 74 #[.slice (some ⟨xb, off, none⟩) k cN, .string y] w' fun e w'' => e = .returned (.int .i64 z) ∧ Below wr.heap.size wr w'' :=
     fun w' hw' => HZ.out ▸ (find_is _ _ _ (L.all.take k) y w' HTK.out (by have := HNB.out; omega) ((HROW.out.take k).below hw')).mono (fun e w9 ⟨h1, h2⟩ => ⟨h1, h2 ▸ hw'⟩)
    go_upto_region 7 with fail
    refine wp_region_calm (by kernel_rfl) ?_ ?_
    ·kernel_rfl
    repeat first
     | go_big_quiet_skip
     | (go_big_quiet_want; go_big_quiet_op; go_big_quiet_on)
     | (with_reducible apply wpQuiet_step
        intro K hK
        go_simp
        first
         | (refine hK _ ?_; clear hK K)
         | (apply Exists.intro
            refine ⟨fun w' hw' => ?_, hK _ ?_⟩
            ·
             (first
              | with_reducible exact k1 _ hw'
              | with_reducible exact k2 _ hw'
              | (have e0 := cell_later hw' z0
                 go_simp
                 first | done | with_reducible exact rfl | with_reducible exact ⟨rfl, rfl⟩ | with_reducible exact k1 _ hw' | with_reducible exact k2 _ hw'))
            clear hK K))
    refine wpQuiet_nil ?_
    intro w7 hw7
    have HM7 := Lib.hid (HM.out.step hw7)
    clear hw7
    go_wp2_with fail
    go_ret
    exact ⟨by rw [HF.out]; rfl, HM7.out.below⟩
  ·have hkn : nN = k := by omega
   subst hkn
   have HNM : Hid (nmsFrom [] L.all = true) := Lib.hid (nms_all (fun j s hs => HST.out j s (by have := (List.getElem?_eq_some_iff.1 hs).1; have := HNB.out.1; omega) hs))
   clear HST hk hlt HK HBW
   obtain ⟨wq2, hwq⟩ : ∃ W, W = wr := ⟨_, rfl⟩
   rw [← hwq] at HM ⊢
   clear hwq
   obtain ⟨l0, l1, l2, l3⟩ : wq2.cell? ⟨gl, 0, none⟩ = some (.slice a1 n1 c1) ∧ wq2.cell? ⟨gl, 1, none⟩ = some (.slice a2 n2 c2) ∧ wq2.cell? ⟨gl, 2, none⟩ = some (.slice a3 n3 c3) ∧ wq2.cell? ⟨gl, 3, none⟩ = some (.slice a4 n4 c4) := HCL.out _ HM.out
   go_wp2_with fail
   clear l0 l1 l2 l3
   go_loopg [5] n2 (fun g i wr => ∃ k : Nat, k + g = n2 ∧ i = .int .i64 (k : Int) ∧ belowB n1 ((L.po.l.map (·.2)).take k) = true ∧ LcAt w wr gl L)
   case atStart => exact ⟨0, by omega, rfl, by rw [List.take_zero]; unfold belowB; rfl, HM.out⟩
   case round =>
    obtain ⟨k, hk, rfl, hst, hM⟩ := hrel
    clear HM
    have HM := Lib.hid hM
    have HST := Lib.hid hst
    have HK := Lib.hid hk
    clear hst hM
    obtain ⟨l0, l1, l2, l3⟩ : wr.cell? ⟨gl, 0, none⟩ = some (.slice a1 n1 c1) ∧ wr.cell? ⟨gl, 1, none⟩ = some (.slice a2 n2 c2) ∧ wr.cell? ⟨gl, 2, none⟩ = some (.slice a3 n3 c3) ∧ wr.cell? ⟨gl, 3, none⟩ = some (.slice a4 n4 c4) := HCL.out _ HM.out
    by_cases hlt : k < n2
    ·obtain ⟨y, hy⟩ : ∃ y, L.po.l[k]? = some y := ⟨_, List.getElem?_eq_getElem (by rw [N2.out]; exact hlt)⟩
     rcases R2.out.below HM.out.below with hnil | ⟨xb, off, rfl, hc⟩
     ·rw [hnil] at hy; simp at hy
     obtain ⟨y0, y1⟩ := y
     have z1 := hc k _ hy 1 (.int .i64 y1) rfl
     have HY := Lib.hid hy
     have d1 : (0 : Int) ≤ k := by omega
     have d2 : (k : Int) < n2 := by omega
     have e1 : wrap64 ((k : Int) + 1) = (k : Int) + 1 := by have := HXX.out; unfold wrap64; omega
     clear hc hy hk
     have HS9 : Hid (∀ w', Below wr.heap.size wr w' → w'.cell? ⟨gl, 0, none⟩ = some (.slice a1 n1 c1) ∧ w'.cell? ⟨gl, 1, none⟩ = some (.slice (some ⟨xb, off, none⟩) n2 c2) ∧ w'.cell? ⟨xb, off + k * 2 + 1, none⟩ = some (.int .i64 y1)) := Lib.hid (fun w' hw' => ⟨(HCL.out _ (HM.out.step hw')).1, (HCL.out _ (HM.out.step hw')).2.1, cell_later hw' z1⟩)
     obtain ⟨D, hD⟩ : ∃ D, decide (0 ≤ y1 ∧ y1 < (n1 : Int)) = D := ⟨_, rfl⟩
     have HD := Lib.hid hD
     clear hD z1
     cases D with
     | true =>
       have HX : Hid (belowB n1 ((L.po.l.map (·.2)).take (k + 1)) = true) := Lib.hid (by rw [belowB_take (get_map HY.out), HST.out, HD.out]; rfl)
       have HIN : Hid (∀ (W : World) (g : Nat), W.heap[g]? = some (.cells #[.int .i64 y1] 3) → Calls Try.prog 75 #[.slice (some ⟨g, 0, none⟩) 1 1, .int .i64 (n1 : Int)] W fun e w' => e = .returned (.bool true) ∧ W = w') := Lib.hid (fun W g h => HD.out ▸ rin_one n1 y1 W g 3 (0, 0) h)
       go_upto_region 12 with fail
       go_region_held3 (fun w' => w'.cell? ⟨gl, 0, none⟩ = some (.slice a1 n1 c1) ∧ w'.cell? ⟨gl, 1, none⟩ = some (.slice (some ⟨xb, off, none⟩) n2 c2) ∧ w'.cell? ⟨xb, off + k * 2 + 1, none⟩ = some (.int .i64 y1))
        (exact HS9.out _ (by first | assumption | (repeat first | assumption | with_reducible exact Below.refl _ _ | with_reducible refine Below.drew ?_ | ((with_reducible refine Below.alloc ?_ ?_ _); rotate_left; first | exact Nat.le_refl _ | omega))))
        (first | (go_at_call 75; refine (HIN.out _ _ (alloc1 wr.drew (.cells #[.int .i64 y1] 3) (Below.refl _ _))).mono ?_; rintro e w9 ⟨rfl, rfl⟩))
       have hb7 : Below wr.heap.size wr (wr.drew.alloc (.cells #[.int .i64 y1] 3)) := (Below.refl _ wr).drew.alloc (Nat.le_refl _) _
       have HM7 := Lib.hid (HM.out.step hb7)
       clear hb7
       go_wp2_with fail
       go_roundg (n2 - (k + 1))
       case rel => exact ⟨k + 1, by have := HK.out; omega, by go_num, HX.out, HM7.out⟩
       case measure => have := HK.out; omega
     | false =>
       have HF := Lib.hid (may_no3 (L := L) (by rw [N1.out]; exact belowB_false (get_map HY.out) (of_decide_eq_false HD.out)))
       have HIN : Hid (∀ (W : World) (g : Nat), W.heap[g]? = some (.cells #[.int .i64 y1] 3) → Calls Try.prog 75 #[.slice (some ⟨g, 0, none⟩) 1 1, .int .i64 (n1 : Int)] W fun e w' => e = .returned (.bool false) ∧ W = w') := Lib.hid (fun W g h => HD.out ▸ rin_one n1 y1 W g 3 (0, 0) h)
       go_upto_region 12 with fail
       go_region_held3 (fun w' => w'.cell? ⟨gl, 0, none⟩ = some (.slice a1 n1 c1) ∧ w'.cell? ⟨gl, 1, none⟩ = some (.slice (some ⟨xb, off, none⟩) n2 c2) ∧ w'.cell? ⟨xb, off + k * 2 + 1, none⟩ = some (.int .i64 y1))
        (exact HS9.out _ (by first | assumption | (repeat first | assumption | with_reducible exact Below.refl _ _ | with_reducible refine Below.drew ?_ | ((with_reducible refine Below.alloc ?_ ?_ _); rotate_left; first | exact Nat.le_refl _ | omega))))
        (first | (go_at_call 75; refine (HIN.out _ _ (alloc1 wr.drew (.cells #[.int .i64 y1] 3) (Below.refl _ _))).mono ?_; rintro e w9 ⟨rfl, rfl⟩))
       have hb7 : Below wr.heap.size wr (wr.drew.alloc (.cells #[.int .i64 y1] 3)) := (Below.refl _ wr).drew.alloc (Nat.le_refl _) _
       have HM7 := Lib.hid (HM.out.step hb7)
       clear hb7
       go_wp2_with fail
       go_ret
       exact ⟨by rw [HF.out]; rfl, HM7.out.below⟩
    ·have hkn : n2 = k := by omega
     subst hkn
     have HB2 : Hid (belowB n1 (L.po.l.map (·.2)) = true) := Lib.hid (by have := HST.out; rwa [List.take_of_length_le (by rw [List.length_map, N2.out]; exact Nat.le_refl _)] at this)
     clear HST hk hlt HK l0 l1 l2 l3
     obtain ⟨wq3, hwq⟩ : ∃ W, W = wr := ⟨_, rfl⟩
     rw [← hwq] at HM ⊢
     clear hwq
     obtain ⟨l0, l1, l2, l3⟩ : wq3.cell? ⟨gl, 0, none⟩ = some (.slice a1 n1 c1) ∧ wq3.cell? ⟨gl, 1, none⟩ = some (.slice a2 n2 c2) ∧ wq3.cell? ⟨gl, 2, none⟩ = some (.slice a3 n3 c3) ∧ wq3.cell? ⟨gl, 3, none⟩ = some (.slice a4 n4 c4) := HCL.out _ HM.out
     go_wp2_with fail
     clear l0 l1 l2 l3
     go_loopg [6] n3 (fun g i wr => ∃ k : Nat, k + g = n3 ∧ i = .int .i64 (k : Int) ∧ belowB n1 ((L.sg.l.map (·.2)).take k) = true ∧ LcAt w wr gl L)
     case atStart => exact ⟨0, by omega, rfl, by rw [List.take_zero]; unfold belowB; rfl, HM.out⟩
     case round =>
      obtain ⟨k, hk, rfl, hst, hM⟩ := hrel
      clear HM
      have HM := Lib.hid hM
      have HST := Lib.hid hst
      have HK := Lib.hid hk
      clear hst hM
      obtain ⟨l0, l1, l2, l3⟩ : wr.cell? ⟨gl, 0, none⟩ = some (.slice a1 n1 c1) ∧ wr.cell? ⟨gl, 1, none⟩ = some (.slice a2 n2 c2) ∧ wr.cell? ⟨gl, 2, none⟩ = some (.slice a3 n3 c3) ∧ wr.cell? ⟨gl, 3, none⟩ = some (.slice a4 n4 c4) := HCL.out _ HM.out
      by_cases hlt : k < n3
      ·obtain ⟨y, hy⟩ : ∃ y, L.sg.l[k]? = some y := ⟨_, List.getElem?_eq_getElem (by rw [N3.out]; exact hlt)⟩
       rcases R3.out.below HM.out.below with hnil | ⟨xb, off, rfl, hc⟩
       ·rw [hnil] at hy; simp at hy
       obtain ⟨y0, y1⟩ := y
       have z1 := hc k _ hy 1 (.int .i64 y1) rfl
       have HY := Lib.hid hy
       have d1 : (0 : Int) ≤ k := by omega
       have d2 : (k : Int) < n3 := by omega
       have e1 : wrap64 ((k : Int) + 1) = (k : Int) + 1 := by have := HXX.out; unfold wrap64; omega
       clear hc hy hk
       have HS9 : Hid (∀ w', Below wr.heap.size wr w' → w'.cell? ⟨gl, 0, none⟩ = some (.slice a1 n1 c1) ∧ w'.cell? ⟨gl, 2, none⟩ = some (.slice (some ⟨xb, off, none⟩) n3 c3) ∧ w'.cell? ⟨xb, off + k * 2 + 1, none⟩ = some (.int .i64 y1)) := Lib.hid (fun w' hw' => ⟨(HCL.out _ (HM.out.step hw')).1, (HCL.out _ (HM.out.step hw')).2.2.1, cell_later hw' z1⟩)
       obtain ⟨D, hD⟩ : ∃ D, decide (0 ≤ y1 ∧ y1 < (n1 : Int)) = D := ⟨_, rfl⟩
       have HD := Lib.hid hD
       clear hD z1
       cases D with
       | true =>
         have HX : Hid (belowB n1 ((L.sg.l.map (·.2)).take (k + 1)) = true) := Lib.hid (by rw [belowB_take (get_map HY.out), HST.out, HD.out]; rfl)
         have HIN : Hid (∀ (W : World) (g : Nat), W.heap[g]? = some (.cells #[.int .i64 y1] 3) → Calls Try.prog 75 #[.slice (some ⟨g, 0, none⟩) 1 1, .int .i64 (n1 : Int)] W fun e w' => e = .returned (.bool true) ∧ W = w') := Lib.hid (fun W g h => HD.out ▸ rin_one n1 y1 W g 3 (0, 0) h)
         go_upto_region 17 with fail
         go_region_held3 (fun w' => w'.cell? ⟨gl, 0, none⟩ = some (.slice a1 n1 c1) ∧ w'.cell? ⟨gl, 2, none⟩ = some (.slice (some ⟨xb, off, none⟩) n3 c3) ∧ w'.cell? ⟨xb, off + k * 2 + 1, none⟩ = some (.int .i64 y1))
          (exact HS9.out _ (by first | assumption | (repeat first | assumption | with_reducible exact Below.refl _ _ | with_reducible refine Below.drew ?_ | ((with_reducible refine Below.alloc ?_ ?_ _); rotate_left; first | exact Nat.le_refl _ | omega))))
          (first | (go_at_call 75; refine (HIN.out _ _ (alloc1 wr.drew (.cells #[.int .i64 y1] 3) (Below.refl _ _))).mono ?_; rintro e w9 ⟨rfl, rfl⟩))
         have hb7 : Below wr.heap.size wr (wr.drew.alloc (.cells #[.int .i64 y1] 3)) := (Below.refl _ wr).drew.alloc (Nat.le_refl _) _
         have HM7 := Lib.hid (HM.out.step hb7)
         clear hb7
         go_wp2_with fail
         go_roundg (n3 - (k + 1))
         case rel => exact ⟨k + 1, by have := HK.out; omega, by go_num, HX.out, HM7.out⟩
         case measure => have := HK.out; omega
       | false =>
         have HF := Lib.hid (may_no4 (L := L) (by rw [N1.out]; exact belowB_false (get_map HY.out) (of_decide_eq_false HD.out)))
         have HIN : Hid (∀ (W : World) (g : Nat), W.heap[g]? = some (.cells #[.int .i64 y1] 3) → Calls Try.prog 75 #[.slice (some ⟨g, 0, none⟩) 1 1, .int .i64 (n1 : Int)] W fun e w' => e = .returned (.bool false) ∧ W = w') := Lib.hid (fun W g h => HD.out ▸ rin_one n1 y1 W g 3 (0, 0) h)
         go_upto_region 17 with fail
         go_region_held3 (fun w' => w'.cell? ⟨gl, 0, none⟩ = some (.slice a1 n1 c1) ∧ w'.cell? ⟨gl, 2, none⟩ = some (.slice (some ⟨xb, off, none⟩) n3 c3) ∧ w'.cell? ⟨xb, off + k * 2 + 1, none⟩ = some (.int .i64 y1))
          (exact HS9.out _ (by first | assumption | (repeat first | assumption | with_reducible exact Below.refl _ _ | with_reducible refine Below.drew ?_ | ((with_reducible refine Below.alloc ?_ ?_ _); rotate_left; first | exact Nat.le_refl _ | omega))))
          (first | (go_at_call 75; refine (HIN.out _ _ (alloc1 wr.drew (.cells #[.int .i64 y1] 3) (Below.refl _ _))).mono ?_; rintro e w9 ⟨rfl, rfl⟩))
         have hb7 : Below wr.heap.size wr (wr.drew.alloc (.cells #[.int .i64 y1] 3)) := (Below.refl _ wr).drew.alloc (Nat.le_refl _) _
         have HM7 := Lib.hid (HM.out.step hb7)
         clear hb7
         go_wp2_with fail
         go_ret
         exact ⟨by rw [HF.out]; rfl, HM7.out.below⟩
      ·have hkn : n3 = k := by omega
       subst hkn
       have HB3 : Hid (belowB n1 (L.sg.l.map (·.2)) = true) := Lib.hid (by have := HST.out; rwa [List.take_of_length_le (by rw [List.length_map, N3.out]; exact Nat.le_refl _)] at this)
       clear HST hk hlt HK l0 l1 l2 l3
       obtain ⟨wq4, hwq⟩ : ∃ W, W = wr := ⟨_, rfl⟩
       rw [← hwq] at HM ⊢
       clear hwq
       obtain ⟨l0, l1, l2, l3⟩ : wq4.cell? ⟨gl, 0, none⟩ = some (.slice a1 n1 c1) ∧ wq4.cell? ⟨gl, 1, none⟩ = some (.slice a2 n2 c2) ∧ wq4.cell? ⟨gl, 2, none⟩ = some (.slice a3 n3 c3) ∧ wq4.cell? ⟨gl, 3, none⟩ = some (.slice a4 n4 c4) := HCL.out _ HM.out
       go_wp2_with fail
       clear l0 l1 l2 l3
       go_loopg [7, 8] n4 (fun g i _ wr => ∃ k : Nat, k + g = n4 ∧ i = .int .i64 (k : Int) ∧ (L.rt.l.take k).all (rrtB n3 n1 n2) = true ∧ LcAt w wr gl L)
       case atStart => exact ⟨0, by omega, rfl, by rw [List.take_zero]; rfl, HM.out⟩
       case round =>
        obtain ⟨k, hk, rfl, hst, hM⟩ := hrel
        clear HM
        have HM := Lib.hid hM
        have HST := Lib.hid hst
        have HK := Lib.hid hk
        clear hst hM
        obtain ⟨l0, l1, l2, l3⟩ : wr.cell? ⟨gl, 0, none⟩ = some (.slice a1 n1 c1) ∧ wr.cell? ⟨gl, 1, none⟩ = some (.slice a2 n2 c2) ∧ wr.cell? ⟨gl, 2, none⟩ = some (.slice a3 n3 c3) ∧ wr.cell? ⟨gl, 3, none⟩ = some (.slice a4 n4 c4) := HCL.out _ HM.out
        by_cases hlt : k < n4
        ·obtain ⟨y, hy⟩ : ∃ y, L.rt.l[k]? = some y := ⟨_, List.getElem?_eq_getElem (by rw [N4.out]; exact hlt)⟩
         rcases R4.out.below HM.out.below with hnil | ⟨xb, off, rfl, hc⟩
         ·rw [hnil] at hy; simp at hy
         have z0 := hc k _ hy 0 _ rfl
         have z1 := hc k _ hy 1 _ rfl
         have z2 := hc k _ hy 2 _ rfl
         have z3 := hc k _ hy 3 _ rfl
         have z4 := hc k _ hy 4 _ rfl
         have z5 := hc k _ hy 5 _ rfl
         rw [Nat.add_zero] at z0
         have HR := Lib.hid (HA.out.rn y (List.mem_of_getElem? hy))
         obtain ⟨nm, sg, ⟨pa, pc, pl⟩, ⟨oa, oc, ol⟩, ⟨va, vc, vl⟩, ⟨fa, fc, fl⟩⟩ := y
         dsimp only at z0 z1 z2 z3 z4 z5
         obtain ⟨m1, hm1⟩ : ∃ m, pl.length = m := ⟨_, rfl⟩
         obtain ⟨m2, hm2⟩ : ∃ m, ol.length = m := ⟨_, rfl⟩
         obtain ⟨m3, hm3⟩ : ∃ m, vl.length = m := ⟨_, rfl⟩
         obtain ⟨m4, hm4⟩ : ∃ m, fl.length = m := ⟨_, rfl⟩
         rw [slv2 hm1] at z2
         rw [slv2 hm2] at z3
         rw [slv2 hm3] at z4
         rw [slv2 hm4] at z5
         have HLE := Lib.hid (show m1 ≤ 9223372036854775807 ∧ m2 ≤ 9223372036854775807 ∧ m3 ≤ 9223372036854775807 ∧ m4 ≤ 9223372036854775807 from ⟨hm1 ▸ HR.out.pa.lenM, hm2 ▸ HR.out.po.lenM, hm3 ▸ HR.out.ov.lenM, hm4 ▸ HR.out.fl.lenM⟩)
         have HMM := Lib.hid (And.intro hm1 (And.intro hm2 (And.intro hm3 hm4)))
         have HY := Lib.hid hy
         have d1 : (0 : Int) ≤ k := by omega
         have d2 : (k : Int) < n4 := by omega
         have e1 : wrap64 ((k : Int) + 1) = (k : Int) + 1 := by have := HXX.out; unfold wrap64; omega
         clear hc hy hk hm1 hm2 hm3 hm4
         obtain ⟨gx, hgx⟩ : ∃ g, g = wr.heap.size := ⟨_, rfl⟩
         go_upto_region 23 with fail
         refine name_world05 ?_
         intro W hW
         have HM4 : Hid (LcAt w W gl L) := Lib.hid (HM.out.step (by rw [hW]; exact below1 _ _))
         have hk4 : W.heap[gx]? = some (.cells #[.string nm, .int .i64 sg, .slice pa m1 pc, .slice oa m2 oc, .slice va m3 vc, .slice fa m4 fc] 44) := by rw [hW, hgx]; exact alloc1 wr _ (Below.refl _ _)
         have HK4 := Lib.hid hk4
         rw [← hgx]
         clear hW hgx hk4 z0 z1 z2 z3 z4 z5 l0 l1 l2 l3
         have HS9 : Hid (∀ w', Below W.heap.size W w' → (w'.cell? ⟨gl, 0, none⟩ = some (.slice a1 n1 c1) ∧ w'.cell? ⟨gl, 1, none⟩ = some (.slice a2 n2 c2) ∧ w'.cell? ⟨gl, 2, none⟩ = some (.slice a3 n3 c3)) ∧ w'.cell? ⟨gx, 1, none⟩ = some (.int .i64 sg) ∧ w'.cell? ⟨gx, 2, none⟩ = some (.slice pa m1 pc) ∧ w'.cell? ⟨gx, 3, none⟩ = some (.slice oa m2 oc) ∧ w'.cell? ⟨gx, 4, none⟩ = some (.slice va m3 vc) ∧ w'.cell? ⟨gx, 5, none⟩ = some (.slice fa m4 fc)) := Lib.hid (fun w' hw' => by
          have q := HCL.out _ (HM4.out.step hw')
          have r := blk_keep hw' HK4.out
          exact ⟨⟨q.1, q.2.1, q.2.2.1⟩, blk_cell r 1 _ rfl, blk_cell r 2 _ rfl, blk_cell r 3 _ rfl, blk_cell r 4 _ rfl, blk_cell r 5 _ rfl⟩)
         obtain ⟨b0, hb0⟩ : ∃ b, decide (0 ≤ sg ∧ sg < (n3 : Int)) = b := ⟨_, rfl⟩
         have B0 := Lib.hid hb0
         clear hb0
         obtain ⟨b1, hb1⟩ : ∃ b, inS n1 pl = b := ⟨_, rfl⟩
         have B1 := Lib.hid hb1
         clear hb1
         obtain ⟨b2, hb2⟩ : ∃ b, inS n1 vl = b := ⟨_, rfl⟩
         have B2 := Lib.hid hb2
         clear hb2
         obtain ⟨b3, hb3⟩ : ∃ b, mayB n2 ol = b := ⟨_, rfl⟩
         have B3 := Lib.hid hb3
         clear hb3
         obtain ⟨b4, hb4⟩ : ∃ b, mayB n2 fl = b := ⟨_, rfl⟩
         have B4 := Lib.hid hb4
         clear hb4
         have HIN0 : Hid (∀ (V : World) (g : Nat), V.heap[g]? = some (.cells #[.int .i64 sg] 3) → Calls Try.prog 75 #[.slice (some ⟨g, 0, none⟩) 1 1, .int .i64 (n3 : Int)] V fun e w' => e = .returned (.bool b0) ∧ V = w') := Lib.hid (fun V g h => B0.out ▸ rin_one n3 sg V g 3 (0, 0) h)
         have HQ1 : Hid (∀ V : World, Below W.heap.size W V → Calls Try.prog 75 #[.slice pa m1 pc, .int .i64 (n1 : Int)] V fun e w' => e = .returned (.bool b1) ∧ V = w') := Lib.hid (fun V h => rin_to b1 n1 pa m1 pc pl V B1.out HMM.out.1 HLE.out.1 ((HR.out.pa.row.below HM4.out.below).below h))
         have HQ2 : Hid (∀ V : World, Below W.heap.size W V → Calls Try.prog 75 #[.slice va m3 vc, .int .i64 (n1 : Int)] V fun e w' => e = .returned (.bool b2) ∧ V = w') := Lib.hid (fun V h => rin_to b2 n1 va m3 vc vl V B2.out HMM.out.2.2.1 HLE.out.2.2.1 ((HR.out.ov.row.below HM4.out.below).below h))
         have HP3 : Hid (∀ V : World, Below W.heap.size W V → Calls Try.prog 76 #[.slice oa m2 oc] V fun e w' => ∃ a n cc, e = .returned (.slice a n cc) ∧ n = min 17 ol.length ∧ SlAt 1 intC w' ⟨a, cc, (ol.map (fun (p : Int × Bool) => p.1)).take 17⟩ ∧ Below W.heap.size W w') := Lib.hid (fun V h => (rpoints_is oa m2 oc ol V HMM.out.2.1 HLE.out.2.1 ((HR.out.po.row.below HM4.out.below).below h)).mono (fun e w9 ⟨a, n, cc, h1, h2, h3, h4⟩ => ⟨a, n, cc, h1, h2, h3, below_on h h4⟩))
         have HQ3 : Hid (∀ (a : Option Addr) (n cc : Nat) (V : World), n = min 17 ol.length → RowAt 1 intC V a ((ol.map (fun (p : Int × Bool) => p.1)).take 17) → Calls Try.prog 75 #[.slice a n cc, .int .i64 (n2 : Int)] V fun e w' => e = .returned (.bool b3) ∧ V = w') := Lib.hid (fun a n cc V h1 h2 => rin_to b3 n2 a n cc _ V (by rw [pts16]; exact B3.out) (by rw [List.length_take, List.length_map, h1]) (by omega) h2)
         have HP5 : Hid (∀ V : World, Below W.heap.size W V → Calls Try.prog 76 #[.slice fa m4 fc] V fun e w' => ∃ a n cc, e = .returned (.slice a n cc) ∧ n = min 17 fl.length ∧ SlAt 1 intC w' ⟨a, cc, (fl.map (fun (p : Int × Bool) => p.1)).take 17⟩ ∧ Below W.heap.size W w') := Lib.hid (fun V h => (rpoints_is fa m4 fc fl V HMM.out.2.2.2 HLE.out.2.2.2 ((HR.out.fl.row.below HM4.out.below).below h)).mono (fun e w9 ⟨a, n, cc, h1, h2, h3, h4⟩ => ⟨a, n, cc, h1, h2, h3, below_on h h4⟩))
         have HQ4 : Hid (∀ (a : Option Addr) (n cc : Nat) (V : World), n = min 17 fl.length → RowAt 1 intC V a ((fl.map (fun (p : Int × Bool) => p.1)).take 17) → Calls Try.prog 75 #[.slice a n cc, .int .i64 (n2 : Int)] V fun e w' => e = .returned (.bool b4) ∧ V = w') := Lib.hid (fun a n cc V h1 h2 => rin_to b4 n2 a n cc _ V (by rw [pts16]; exact B4.out) (by rw [List.length_take, List.length_map, h1]) (by omega) h2)
         refine wp_region_held_drew (S := (fun w' => (w'.cell? ⟨gl, 0, none⟩ = some (.slice a1 n1 c1) ∧ w'.cell? ⟨gl, 1, none⟩ = some (.slice a2 n2 c2) ∧ w'.cell? ⟨gl, 2, none⟩ = some (.slice a3 n3 c3)) ∧ w'.cell? ⟨gx, 1, none⟩ = some (.int .i64 sg) ∧ w'.cell? ⟨gx, 2, none⟩ = some (.slice pa m1 pc) ∧ w'.cell? ⟨gx, 3, none⟩ = some (.slice oa m2 oc) ∧ w'.cell? ⟨gx, 4, none⟩ = some (.slice va m3 vc) ∧ w'.cell? ⟨gx, 5, none⟩ = some (.slice fa m4 fc))) (by kernel_rfl) (HS9.out _ (Below.refl _ W).drew) (fun hH => ?_)
         refine wpAnyH_take (i := 0) (oi := ⟨some 86, _, _, _, _, _⟩) (v := .pointer (some ⟨gx, 1, none⟩)) rfl (by kernel_rfl) (by kernel_rfl) (by kernel_rfl) (fun _ _ _ h => h) (Or.inl ⟨by kernel_rfl, fun w hS => by go_simp⟩) hH ?_
         simp only [Act.put, List.setIfInBounds_toArray, List.set_cons_zero, List.set_cons_succ]
         refine wpAnyH_re 45 #[true, false, false, false, false, false, false, false, false, false, false, false, false, false, false, false, false, false, false, false, false, false, false, false, false, false, false, false, false, false, false, false, false, false, false, false, false, false, false, false, false, false, false, false, false, false] (by kernel_rfl) (by kernel_rfl) ?_
         refine wpAnyH_take (i := 1) (oi := ⟨some 87, _, _, _, _, _⟩) (v := .int .i64 sg) rfl (by kernel_rfl) (by kernel_rfl) (by kernel_rfl) (fun _ _ _ h => h) (Or.inl ⟨by kernel_rfl, fun w hS => by obtain ⟨⟨u0, u1, u2⟩, u3, u4, u5, u6, u7⟩ := hS; go_simp⟩) hH ?_
         simp only [Act.put, List.setIfInBounds_toArray, List.set_cons_zero, List.set_cons_succ]
         refine wpAnyH_re 44 #[true, true, false, false, false, false, false, false, false, false, false, false, false, false, false, false, false, false, false, false, false, false, false, false, false, false, false, false, false, false, false, false, false, false, false, false, false, false, false, false, false, false, false, false, false, false] (by kernel_rfl) (by kernel_rfl) ?_
         refine wpAnyH_take (i := 3) (oi := ⟨some 89, _, _, _, _, _⟩) (v := .pointer (some ⟨gl, 2, none⟩)) rfl (by kernel_rfl) (by kernel_rfl) (by kernel_rfl) (fun _ _ _ h => h) (Or.inl ⟨by kernel_rfl, fun w hS => by go_simp⟩) hH ?_
         simp only [Act.put, List.setIfInBounds_toArray, List.set_cons_zero, List.set_cons_succ]
         refine wpAnyH_re 43 #[true, true, false, true, false, false, false, false, false, false, false, false, false, false, false, false, false, false, false, false, false, false, false, false, false, false, false, false, false, false, false, false, false, false, false, false, false, false, false, false, false, false, false, false, false, false] (by kernel_rfl) (by kernel_rfl) ?_
         refine wpAnyH_take (i := 4) (oi := ⟨some 90, _, _, _, _, _⟩) (v := .slice a3 n3 c3) rfl (by kernel_rfl) (by kernel_rfl) (by kernel_rfl) (fun _ _ _ h => h) (Or.inl ⟨by kernel_rfl, fun w hS => by obtain ⟨⟨u0, u1, u2⟩, u3, u4, u5, u6, u7⟩ := hS; go_simp⟩) hH ?_
         simp only [Act.put, List.setIfInBounds_toArray, List.set_cons_zero, List.set_cons_succ]
         refine wpAnyH_re 42 #[true, true, false, true, true, false, false, false, false, false, false, false, false, false, false, false, false, false, false, false, false, false, false, false, false, false, false, false, false, false, false, false, false, false, false, false, false, false, false, false, false, false, false, false, false, false] (by kernel_rfl) (by kernel_rfl) ?_
         refine wpAnyH_take (i := 5) (oi := ⟨some 91, _, _, _, _, _⟩) (v := .int .i64 (n3 : Int)) rfl (by kernel_rfl) (by kernel_rfl) (by kernel_rfl) (fun _ _ _ h => h) (Or.inl ⟨by kernel_rfl, fun w hS => by go_simp⟩) hH ?_
         simp only [Act.put, List.setIfInBounds_toArray, List.set_cons_zero, List.set_cons_succ]
         refine wpAnyH_re 41 #[true, true, false, true, true, true, false, false, false, false, false, false, false, false, false, false, false, false, false, false, false, false, false, false, false, false, false, false, false, false, false, false, false, false, false, false, false, false, false, false, false, false, false, false, false, false] (by kernel_rfl) (by kernel_rfl) ?_
         refine wpAnyH_ready (rs := [2]) (by kernel_rfl) (by simp) (AllReadyH.cons (o := ⟨some 88, _, _, _, _, _⟩) rfl (fun K hK => ?_) AllReadyH.nil)
         go_simp
         have hb1 : Below W.heap.size W (W.alloc (.cells #[.int .i64 sg] 3)).drew := (below1 W _).drew
         have hy1 : (W.alloc (.cells #[.int .i64 sg] 3)).drew.heap[W.heap.size]? = some (.cells #[.int .i64 sg] 3) := alloc1 W _ (Below.refl _ _).drew
         obtain ⟨V1, hV1⟩ : ∃ V, V = (W.alloc (.cells #[.int .i64 sg] 3)).drew := ⟨_, rfl⟩
         rw [← hV1] at hb1 hy1 ⊢
         obtain ⟨gy, hgy⟩ : ∃ g, g = W.heap.size := ⟨_, rfl⟩
         rw [← hgy] at hy1 ⊢
         have HY1 := Lib.hid hy1
         have HB1 := Lib.hid hb1
         refine hK.out _ _ (HS9.out _ HB1.out) (fun hH1 => ?_)
         clear hK K hH hV1 hgy hb1 hy1
         refine wpAnyH_re 40 #[true, true, true, true, true, true, false, false, false, false, false, false, false, false, false, false, false, false, false, false, false, false, false, false, false, false, false, false, false, false, false, false, false, false, false, false, false, false, false, false, false, false, false, false, false, false] (by kernel_rfl) (by kernel_rfl) ?_
         refine wpAnyH_ready (rs := [6]) (by kernel_rfl) (by simp) (AllReadyH.cons (o := ⟨some 92, _, _, _, _, _⟩) rfl (fun K hK => ?_) AllReadyH.nil)
         go_simp
         refine (HIN0.out _ _ HY1.out).mono ?_
         rintro e w9 ⟨rfl, rfl⟩
         refine hK.out _ _ (HS9.out _ HB1.out) (fun hH2 => ?_)
         clear hK K hH1
         cases b0 with
         | false =>
           as_aux_lemma =>
            have HF := Lib.hid (may_no5 (L := L) (by rw [N1.out, N2.out, N3.out]; exact all_bad HY.out (rr_1 B0.out)))
            refine wpAnyH_re 39 #[true, true, true, true, true, true, true, false, false, false, false, false, false, false, false, false, false, false, false, false, false, false, false, false, false, false, false, false, false, false, false, false, false, false, false, false, false, false, false, false, false, false, false, false, false, false] (by kernel_rfl) (by kernel_rfl) ?_
            refine wpAnyH_take (i := 7) (oi := ⟨some 93, _, _, _, _, _⟩) (v := .bool true) rfl (by kernel_rfl) (by kernel_rfl) (by kernel_rfl) (fun _ _ _ h => h) (Or.inl ⟨by kernel_rfl, fun w hS => by go_simp⟩) hH2 ?_
            simp only [Act.put, List.setIfInBounds_toArray, List.set_cons_zero, List.set_cons_succ]
            refine wpAnyH_re 38 #[true, true, true, true, true, true, true, true, false, false, false, false, false, false, false, false, false, false, false, false, false, false, false, false, false, false, false, false, false, false, false, false, false, false, false, false, false, false, false, false, false, false, false, false, false, false] (by kernel_rfl) (by kernel_rfl) ?_
            refine wpAnyH_take (i := 8) (oi := ⟨some 94, _, _, _, _, _⟩) (v := .bool true) rfl (by kernel_rfl) (by kernel_rfl) (by kernel_rfl) (fun _ _ _ h => h) (Or.inl ⟨by kernel_rfl, fun w hS => by go_simp⟩) hH2 ?_
            simp only [Act.put, List.setIfInBounds_toArray, List.set_cons_zero, List.set_cons_succ]
            refine wpAnyH_re 37 #[true, true, true, true, true, true, true, true, true, false, false, false, false, false, false, false, false, false, false, false, false, false, false, false, false, false, false, false, false, false, false, false, false, false, false, false, false, false, false, false, false, false, false, false, false, false] (by kernel_rfl) (by kernel_rfl) ?_
            refine wpAnyH_take (i := 9) (oi := ⟨some 95, _, _, _, _, _⟩) (v := undef) rfl (by kernel_rfl) (by kernel_rfl) (by kernel_rfl) (fun _ _ _ h => h) (Or.inr ⟨by kernel_rfl, rfl⟩) hH2 ?_
            simp only [Act.put, List.setIfInBounds_toArray, List.set_cons_zero, List.set_cons_succ]
            refine wpAnyH_re 36 #[true, true, true, true, true, true, true, true, true, true, false, false, false, false, false, false, false, false, false, false, false, false, false, false, false, false, false, false, false, false, false, false, false, false, false, false, false, false, false, false, false, false, false, false, false, false] (by kernel_rfl) (by kernel_rfl) ?_
            refine wpAnyH_take (i := 10) (oi := ⟨some 96, _, _, _, _, _⟩) (v := undef) rfl (by kernel_rfl) (by kernel_rfl) (by kernel_rfl) (fun _ _ _ h => h) (Or.inr ⟨by kernel_rfl, rfl⟩) hH2 ?_
            simp only [Act.put, List.setIfInBounds_toArray, List.set_cons_zero, List.set_cons_succ]
            refine wpAnyH_re 35 #[true, true, true, true, true, true, true, true, true, true, true, false, false, false, false, false, false, false, false, false, false, false, false, false, false, false, false, false, false, false, false, false, false, false, false, false, false, false, false, false, false, false, false, false, false, false] (by kernel_rfl) (by kernel_rfl) ?_
            refine wpAnyH_take (i := 11) (oi := ⟨some 97, _, _, _, _, _⟩) (v := undef) rfl (by kernel_rfl) (by kernel_rfl) (by kernel_rfl) (fun _ _ _ h => h) (Or.inr ⟨by kernel_rfl, rfl⟩) hH2 ?_
            simp only [Act.put, List.setIfInBounds_toArray, List.set_cons_zero, List.set_cons_succ]
            refine wpAnyH_re 34 #[true, true, true, true, true, true, true, true, true, true, true, true, false, false, false, false, false, false, false, false, false, false, false, false, false, false, false, false, false, false, false, false, false, false, false, false, false, false, false, false, false, false, false, false, false, false] (by kernel_rfl) (by kernel_rfl) ?_
            refine wpAnyH_take (i := 12) (oi := ⟨some 98, _, _, _, _, _⟩) (v := undef) rfl (by kernel_rfl) (by kernel_rfl) (by kernel_rfl) (fun _ _ _ h => h) (Or.inr ⟨by kernel_rfl, rfl⟩) hH2 ?_
            simp only [Act.put, List.setIfInBounds_toArray, List.set_cons_zero, List.set_cons_succ]
            refine wpAnyH_re 33 #[true, true, true, true, true, true, true, true, true, true, true, true, true, false, false, false, false, false, false, false, false, false, false, false, false, false, false, false, false, false, false, false, false, false, false, false, false, false, false, false, false, false, false, false, false, false] (by kernel_rfl) (by kernel_rfl) ?_
            refine wpAnyH_take (i := 13) (oi := ⟨some 99, _, _, _, _, _⟩) (v := undef) rfl (by kernel_rfl) (by kernel_rfl) (by kernel_rfl) (fun _ _ _ h => h) (Or.inr ⟨by kernel_rfl, rfl⟩) hH2 ?_
            simp only [Act.put, List.setIfInBounds_toArray, List.set_cons_zero, List.set_cons_succ]
            refine wpAnyH_re 32 #[true, true, true, true, true, true, true, true, true, true, true, true, true, true, false, false, false, false, false, false, false, false, false, false, false, false, false, false, false, false, false, false, false, false, false, false, false, false, false, false, false, false, false, false, false, false] (by kernel_rfl) (by kernel_rfl) ?_
            refine wpAnyH_take (i := 14) (oi := ⟨some 100, _, _, _, _, _⟩) (v := undef) rfl (by kernel_rfl) (by kernel_rfl) (by kernel_rfl) (fun _ _ _ h => h) (Or.inr ⟨by kernel_rfl, rfl⟩) hH2 ?_
            simp only [Act.put, List.setIfInBounds_toArray, List.set_cons_zero, List.set_cons_succ]
            refine wpAnyH_re 31 #[true, true, true, true, true, true, true, true, true, true, true, true, true, true, true, false, false, false, false, false, false, false, false, false, false, false, false, false, false, false, false, false, false, false, false, false, false, false, false, false, false, false, false, false, false, false] (by kernel_rfl) (by kernel_rfl) ?_
            refine wpAnyH_take (i := 15) (oi := ⟨some 101, _, _, _, _, _⟩) (v := undef) rfl (by kernel_rfl) (by kernel_rfl) (by kernel_rfl) (fun _ _ _ h => h) (Or.inr ⟨by kernel_rfl, rfl⟩) hH2 ?_
            simp only [Act.put, List.setIfInBounds_toArray, List.set_cons_zero, List.set_cons_succ]
            refine wpAnyH_re 30 #[true, true, true, true, true, true, true, true, true, true, true, true, true, true, true, true, false, false, false, false, false, false, false, false, false, false, false, false, false, false, false, false, false, false, false, false, false, false, false, false, false, false, false, false, false, false] (by kernel_rfl) (by kernel_rfl) ?_
            refine wpAnyH_take (i := 16) (oi := ⟨some 102, _, _, _, _, _⟩) (v := .bool true) rfl (by kernel_rfl) (by kernel_rfl) (by kernel_rfl) (fun _ _ _ h => h) (Or.inl ⟨by kernel_rfl, fun w hS => by go_simp⟩) hH2 ?_
            simp only [Act.put, List.setIfInBounds_toArray, List.set_cons_zero, List.set_cons_succ]
            refine wpAnyH_re 29 #[true, true, true, true, true, true, true, true, true, true, true, true, true, true, true, true, true, false, false, false, false, false, false, false, false, false, false, false, false, false, false, false, false, false, false, false, false, false, false, false, false, false, false, false, false, false] (by kernel_rfl) (by kernel_rfl) ?_
            refine wpAnyH_take (i := 17) (oi := ⟨some 103, _, _, _, _, _⟩) (v := .bool true) rfl (by kernel_rfl) (by kernel_rfl) (by kernel_rfl) (fun _ _ _ h => h) (Or.inl ⟨by kernel_rfl, fun w hS => by go_simp⟩) hH2 ?_
            simp only [Act.put, List.setIfInBounds_toArray, List.set_cons_zero, List.set_cons_succ]
            refine wpAnyH_re 28 #[true, true, true, true, true, true, true, true, true, true, true, true, true, true, true, true, true, true, false, false, false, false, false, false, false, false, false, false, false, false, false, false, false, false, false, false, false, false, false, false, false, false, false, false, false, false] (by kernel_rfl) (by kernel_rfl) ?_
            refine wpAnyH_take (i := 18) (oi := ⟨some 104, _, _, _, _, _⟩) (v := undef) rfl (by kernel_rfl) (by kernel_rfl) (by kernel_rfl) (fun _ _ _ h => h) (Or.inr ⟨by kernel_rfl, rfl⟩) hH2 ?_
            simp only [Act.put, List.setIfInBounds_toArray, List.set_cons_zero, List.set_cons_succ]
            refine wpAnyH_re 27 #[true, true, true, true, true, true, true, true, true, true, true, true, true, true, true, true, true, true, true, false, false, false, false, false, false, false, false, false, false, false, false, false, false, false, false, false, false, false, false, false, false, false, false, false, false, false] (by kernel_rfl) (by kernel_rfl) ?_
            refine wpAnyH_take (i := 19) (oi := ⟨some 105, _, _, _, _, _⟩) (v := undef) rfl (by kernel_rfl) (by kernel_rfl) (by kernel_rfl) (fun _ _ _ h => h) (Or.inr ⟨by kernel_rfl, rfl⟩) hH2 ?_
            simp only [Act.put, List.setIfInBounds_toArray, List.set_cons_zero, List.set_cons_succ]
            refine wpAnyH_re 26 #[true, true, true, true, true, true, true, true, true, true, true, true, true, true, true, true, true, true, true, true, false, false, false, false, false, false, false, false, false, false, false, false, false, false, false, false, false, false, false, false, false, false, false, false, false, false] (by kernel_rfl) (by kernel_rfl) ?_
            refine wpAnyH_take (i := 20) (oi := ⟨some 106, _, _, _, _, _⟩) (v := undef) rfl (by kernel_rfl) (by kernel_rfl) (by kernel_rfl) (fun _ _ _ h => h) (Or.inr ⟨by kernel_rfl, rfl⟩) hH2 ?_
            simp only [Act.put, List.setIfInBounds_toArray, List.set_cons_zero, List.set_cons_succ]
            refine wpAnyH_re 25 #[true, true, true, true, true, true, true, true, true, true, true, true, true, true, true, true, true, true, true, true, true, false, false, false, false, false, false, false, false, false, false, false, false, false, false, false, false, false, false, false, false, false, false, false, false, false] (by kernel_rfl) (by kernel_rfl) ?_
            refine wpAnyH_take (i := 21) (oi := ⟨some 107, _, _, _, _, _⟩) (v := undef) rfl (by kernel_rfl) (by kernel_rfl) (by kernel_rfl) (fun _ _ _ h => h) (Or.inr ⟨by kernel_rfl, rfl⟩) hH2 ?_
            simp only [Act.put, List.setIfInBounds_toArray, List.set_cons_zero, List.set_cons_succ]
            refine wpAnyH_re 24 #[true, true, true, true, true, true, true, true, true, true, true, true, true, true, true, true, true, true, true, true, true, true, false, false, false, false, false, false, false, false, false, false, false, false, false, false, false, false, false, false, false, false, false, false, false, false] (by kernel_rfl) (by kernel_rfl) ?_
            refine wpAnyH_take (i := 22) (oi := ⟨some 108, _, _, _, _, _⟩) (v := undef) rfl (by kernel_rfl) (by kernel_rfl) (by kernel_rfl) (fun _ _ _ h => h) (Or.inr ⟨by kernel_rfl, rfl⟩) hH2 ?_
            simp only [Act.put, List.setIfInBounds_toArray, List.set_cons_zero, List.set_cons_succ]
            refine wpAnyH_re 23 #[true, true, true, true, true, true, true, true, true, true, true, true, true, true, true, true, true, true, true, true, true, true, true, false, false, false, false, false, false, false, false, false, false, false, false, false, false, false, false, false, false, false, false, false, false, false] (by kernel_rfl) (by kernel_rfl) ?_
            refine wpAnyH_take (i := 23) (oi := ⟨some 109, _, _, _, _, _⟩) (v := undef) rfl (by kernel_rfl) (by kernel_rfl) (by kernel_rfl) (fun _ _ _ h => h) (Or.inr ⟨by kernel_rfl, rfl⟩) hH2 ?_
            simp only [Act.put, List.setIfInBounds_toArray, List.set_cons_zero, List.set_cons_succ]
            refine wpAnyH_re 22 #[true, true, true, true, true, true, true, true, true, true, true, true, true, true, true, true, true, true, true, true, true, true, true, true, false, false, false, false, false, false, false, false, false, false, false, false, false, false, false, false, false, false, false, false, false, false] (by kernel_rfl) (by kernel_rfl) ?_
            refine wpAnyH_take (i := 24) (oi := ⟨some 110, _, _, _, _, _⟩) (v := undef) rfl (by kernel_rfl) (by kernel_rfl) (by kernel_rfl) (fun _ _ _ h => h) (Or.inr ⟨by kernel_rfl, rfl⟩) hH2 ?_
            simp only [Act.put, List.setIfInBounds_toArray, List.set_cons_zero, List.set_cons_succ]
            refine wpAnyH_re 21 #[true, true, true, true, true, true, true, true, true, true, true, true, true, true, true, true, true, true, true, true, true, true, true, true, true, false, false, false, false, false, false, false, false, false, false, false, false, false, false, false, false, false, false, false, false, false] (by kernel_rfl) (by kernel_rfl) ?_
            refine wpAnyH_take (i := 25) (oi := ⟨some 111, _, _, _, _, _⟩) (v := .bool true) rfl (by kernel_rfl) (by kernel_rfl) (by kernel_rfl) (fun _ _ _ h => h) (Or.inl ⟨by kernel_rfl, fun w hS => by go_simp⟩) hH2 ?_
            simp only [Act.put, List.setIfInBounds_toArray, List.set_cons_zero, List.set_cons_succ]
            refine wpAnyH_re 20 #[true, true, true, true, true, true, true, true, true, true, true, true, true, true, true, true, true, true, true, true, true, true, true, true, true, true, false, false, false, false, false, false, false, false, false, false, false, false, false, false, false, false, false, false, false, false] (by kernel_rfl) (by kernel_rfl) ?_
            refine wpAnyH_take (i := 26) (oi := ⟨some 112, _, _, _, _, _⟩) (v := .bool true) rfl (by kernel_rfl) (by kernel_rfl) (by kernel_rfl) (fun _ _ _ h => h) (Or.inl ⟨by kernel_rfl, fun w hS => by go_simp⟩) hH2 ?_
            simp only [Act.put, List.setIfInBounds_toArray, List.set_cons_zero, List.set_cons_succ]
            refine wpAnyH_re 19 #[true, true, true, true, true, true, true, true, true, true, true, true, true, true, true, true, true, true, true, true, true, true, true, true, true, true, true, false, false, false, false, false, false, false, false, false, false, false, false, false, false, false, false, false, false, false] (by kernel_rfl) (by kernel_rfl) ?_
            refine wpAnyH_take (i := 27) (oi := ⟨some 113, _, _, _, _, _⟩) (v := undef) rfl (by kernel_rfl) (by kernel_rfl) (by kernel_rfl) (fun _ _ _ h => h) (Or.inr ⟨by kernel_rfl, rfl⟩) hH2 ?_
            simp only [Act.put, List.setIfInBounds_toArray, List.set_cons_zero, List.set_cons_succ]
            refine wpAnyH_re 18 #[true, true, true, true, true, true, true, true, true, true, true, true, true, true, true, true, true, true, true, true, true, true, true, true, true, true, true, true, false, false, false, false, false, false, false, false, false, false, false, false, false, false, false, false, false, false] (by kernel_rfl) (by kernel_rfl) ?_
            refine wpAnyH_take (i := 28) (oi := ⟨some 114, _, _, _, _, _⟩) (v := undef) rfl (by kernel_rfl) (by kernel_rfl) (by kernel_rfl) (fun _ _ _ h => h) (Or.inr ⟨by kernel_rfl, rfl⟩) hH2 ?_
            simp only [Act.put, List.setIfInBounds_toArray, List.set_cons_zero, List.set_cons_succ]
            refine wpAnyH_re 17 #[true, true, true, true, true, true, true, true, true, true, true, true, true, true, true, true, true, true, true, true, true, true, true, true, true, true, true, true, true, false, false, false, false, false, false, false, false, false, false, false, false, false, false, false, false, false] (by kernel_rfl) (by kernel_rfl) ?_
            refine wpAnyH_take (i := 29) (oi := ⟨some 115, _, _, _, _, _⟩) (v := undef) rfl (by kernel_rfl) (by kernel_rfl) (by kernel_rfl) (fun _ _ _ h => h) (Or.inr ⟨by kernel_rfl, rfl⟩) hH2 ?_
            simp only [Act.put, List.setIfInBounds_toArray, List.set_cons_zero, List.set_cons_succ]
            refine wpAnyH_re 16 #[true, true, true, true, true, true, true, true, true, true, true, true, true, true, true, true, true, true, true, true, true, true, true, true, true, true, true, true, true, true, false, false, false, false, false, false, false, false, false, false, false, false, false, false, false, false] (by kernel_rfl) (by kernel_rfl) ?_
            refine wpAnyH_take (i := 30) (oi := ⟨some 116, _, _, _, _, _⟩) (v := undef) rfl (by kernel_rfl) (by kernel_rfl) (by kernel_rfl) (fun _ _ _ h => h) (Or.inr ⟨by kernel_rfl, rfl⟩) hH2 ?_
            simp only [Act.put, List.setIfInBounds_toArray, List.set_cons_zero, List.set_cons_succ]
            refine wpAnyH_re 15 #[true, true, true, true, true, true, true, true, true, true, true, true, true, true, true, true, true, true, true, true, true, true, true, true, true, true, true, true, true, true, true, false, false, false, false, false, false, false, false, false, false, false, false, false, false, false] (by kernel_rfl) (by kernel_rfl) ?_
            refine wpAnyH_take (i := 31) (oi := ⟨some 117, _, _, _, _, _⟩) (v := undef) rfl (by kernel_rfl) (by kernel_rfl) (by kernel_rfl) (fun _ _ _ h => h) (Or.inr ⟨by kernel_rfl, rfl⟩) hH2 ?_
            simp only [Act.put, List.setIfInBounds_toArray, List.set_cons_zero, List.set_cons_succ]
            refine wpAnyH_re 14 #[true, true, true, true, true, true, true, true, true, true, true, true, true, true, true, true, true, true, true, true, true, true, true, true, true, true, true, true, true, true, true, true, false, false, false, false, false, false, false, false, false, false, false, false, false, false] (by kernel_rfl) (by kernel_rfl) ?_
            refine wpAnyH_take (i := 32) (oi := ⟨some 118, _, _, _, _, _⟩) (v := undef) rfl (by kernel_rfl) (by kernel_rfl) (by kernel_rfl) (fun _ _ _ h => h) (Or.inr ⟨by kernel_rfl, rfl⟩) hH2 ?_
            simp only [Act.put, List.setIfInBounds_toArray, List.set_cons_zero, List.set_cons_succ]
            refine wpAnyH_re 13 #[true, true, true, true, true, true, true, true, true, true, true, true, true, true, true, true, true, true, true, true, true, true, true, true, true, true, true, true, true, true, true, true, true, false, false, false, false, false, false, false, false, false, false, false, false, false] (by kernel_rfl) (by kernel_rfl) ?_
            refine wpAnyH_take (i := 33) (oi := ⟨some 119, _, _, _, _, _⟩) (v := undef) rfl (by kernel_rfl) (by kernel_rfl) (by kernel_rfl) (fun _ _ _ h => h) (Or.inr ⟨by kernel_rfl, rfl⟩) hH2 ?_
            simp only [Act.put, List.setIfInBounds_toArray, List.set_cons_zero, List.set_cons_succ]
            refine wpAnyH_re 12 #[true, true, true, true, true, true, true, true, true, true, true, true, true, true, true, true, true, true, true, true, true, true, true, true, true, true, true, true, true, true, true, true, true, true, false, false, false, false, false, false, false, false, false, false, false, false] (by kernel_rfl) (by kernel_rfl) ?_
            refine wpAnyH_take (i := 34) (oi := ⟨some 120, _, _, _, _, _⟩) (v := undef) rfl (by kernel_rfl) (by kernel_rfl) (by kernel_rfl) (fun _ _ _ h => h) (Or.inr ⟨by kernel_rfl, rfl⟩) hH2 ?_
            simp only [Act.put, List.setIfInBounds_toArray, List.set_cons_zero, List.set_cons_succ]
            refine wpAnyH_re 11 #[true, true, true, true, true, true, true, true, true, true, true, true, true, true, true, true, true, true, true, true, true, true, true, true, true, true, true, true, true, true, true, true, true, true, true, false, false, false, false, false, false, false, false, false, false, false] (by kernel_rfl) (by kernel_rfl) ?_
            refine wpAnyH_take (i := 35) (oi := ⟨some 121, _, _, _, _, _⟩) (v := .bool true) rfl (by kernel_rfl) (by kernel_rfl) (by kernel_rfl) (fun _ _ _ h => h) (Or.inl ⟨by kernel_rfl, fun w hS => by go_simp⟩) hH2 ?_
            simp only [Act.put, List.setIfInBounds_toArray, List.set_cons_zero, List.set_cons_succ]
            refine wpAnyH_re 10 #[true, true, true, true, true, true, true, true, true, true, true, true, true, true, true, true, true, true, true, true, true, true, true, true, true, true, true, true, true, true, true, true, true, true, true, true, false, false, false, false, false, false, false, false, false, false] (by kernel_rfl) (by kernel_rfl) ?_
            refine wpAnyH_take (i := 36) (oi := ⟨some 122, _, _, _, _, _⟩) (v := .bool true) rfl (by kernel_rfl) (by kernel_rfl) (by kernel_rfl) (fun _ _ _ h => h) (Or.inl ⟨by kernel_rfl, fun w hS => by go_simp⟩) hH2 ?_
            simp only [Act.put, List.setIfInBounds_toArray, List.set_cons_zero, List.set_cons_succ]
            refine wpAnyH_re 9 #[true, true, true, true, true, true, true, true, true, true, true, true, true, true, true, true, true, true, true, true, true, true, true, true, true, true, true, true, true, true, true, true, true, true, true, true, true, false, false, false, false, false, false, false, false, false] (by kernel_rfl) (by kernel_rfl) ?_
            refine wpAnyH_take (i := 37) (oi := ⟨some 123, _, _, _, _, _⟩) (v := undef) rfl (by kernel_rfl) (by kernel_rfl) (by kernel_rfl) (fun _ _ _ h => h) (Or.inr ⟨by kernel_rfl, rfl⟩) hH2 ?_
            simp only [Act.put, List.setIfInBounds_toArray, List.set_cons_zero, List.set_cons_succ]
            refine wpAnyH_re 8 #[true, true, true, true, true, true, true, true, true, true, true, true, true, true, true, true, true, true, true, true, true, true, true, true, true, true, true, true, true, true, true, true, true, true, true, true, true, true, false, false, false, false, false, false, false, false] (by kernel_rfl) (by kernel_rfl) ?_
            refine wpAnyH_take (i := 38) (oi := ⟨some 124, _, _, _, _, _⟩) (v := undef) rfl (by kernel_rfl) (by kernel_rfl) (by kernel_rfl) (fun _ _ _ h => h) (Or.inr ⟨by kernel_rfl, rfl⟩) hH2 ?_
            simp only [Act.put, List.setIfInBounds_toArray, List.set_cons_zero, List.set_cons_succ]
            refine wpAnyH_re 7 #[true, true, true, true, true, true, true, true, true, true, true, true, true, true, true, true, true, true, true, true, true, true, true, true, true, true, true, true, true, true, true, true, true, true, true, true, true, true, true, false, false, false, false, false, false, false] (by kernel_rfl) (by kernel_rfl) ?_
            refine wpAnyH_take (i := 39) (oi := ⟨some 125, _, _, _, _, _⟩) (v := undef) rfl (by kernel_rfl) (by kernel_rfl) (by kernel_rfl) (fun _ _ _ h => h) (Or.inr ⟨by kernel_rfl, rfl⟩) hH2 ?_
            simp only [Act.put, List.setIfInBounds_toArray, List.set_cons_zero, List.set_cons_succ]
            refine wpAnyH_re 6 #[true, true, true, true, true, true, true, true, true, true, true, true, true, true, true, true, true, true, true, true, true, true, true, true, true, true, true, true, true, true, true, true, true, true, true, true, true, true, true, true, false, false, false, false, false, false] (by kernel_rfl) (by kernel_rfl) ?_
            refine wpAnyH_take (i := 40) (oi := ⟨some 126, _, _, _, _, _⟩) (v := undef) rfl (by kernel_rfl) (by kernel_rfl) (by kernel_rfl) (fun _ _ _ h => h) (Or.inr ⟨by kernel_rfl, rfl⟩) hH2 ?_
            simp only [Act.put, List.setIfInBounds_toArray, List.set_cons_zero, List.set_cons_succ]
            refine wpAnyH_re 5 #[true, true, true, true, true, true, true, true, true, true, true, true, true, true, true, true, true, true, true, true, true, true, true, true, true, true, true, true, true, true, true, true, true, true, true, true, true, true, true, true, true, false, false, false, false, false] (by kernel_rfl) (by kernel_rfl) ?_
            refine wpAnyH_take (i := 41) (oi := ⟨some 127, _, _, _, _, _⟩) (v := undef) rfl (by kernel_rfl) (by kernel_rfl) (by kernel_rfl) (fun _ _ _ h => h) (Or.inr ⟨by kernel_rfl, rfl⟩) hH2 ?_
            simp only [Act.put, List.setIfInBounds_toArray, List.set_cons_zero, List.set_cons_succ]
            refine wpAnyH_re 4 #[true, true, true, true, true, true, true, true, true, true, true, true, true, true, true, true, true, true, true, true, true, true, true, true, true, true, true, true, true, true, true, true, true, true, true, true, true, true, true, true, true, true, false, false, false, false] (by kernel_rfl) (by kernel_rfl) ?_
            refine wpAnyH_take (i := 42) (oi := ⟨some 128, _, _, _, _, _⟩) (v := undef) rfl (by kernel_rfl) (by kernel_rfl) (by kernel_rfl) (fun _ _ _ h => h) (Or.inr ⟨by kernel_rfl, rfl⟩) hH2 ?_
            simp only [Act.put, List.setIfInBounds_toArray, List.set_cons_zero, List.set_cons_succ]
            refine wpAnyH_re 3 #[true, true, true, true, true, true, true, true, true, true, true, true, true, true, true, true, true, true, true, true, true, true, true, true, true, true, true, true, true, true, true, true, true, true, true, true, true, true, true, true, true, true, true, false, false, false] (by kernel_rfl) (by kernel_rfl) ?_
            refine wpAnyH_take (i := 43) (oi := ⟨some 129, _, _, _, _, _⟩) (v := undef) rfl (by kernel_rfl) (by kernel_rfl) (by kernel_rfl) (fun _ _ _ h => h) (Or.inr ⟨by kernel_rfl, rfl⟩) hH2 ?_
            simp only [Act.put, List.setIfInBounds_toArray, List.set_cons_zero, List.set_cons_succ]
            refine wpAnyH_re 2 #[true, true, true, true, true, true, true, true, true, true, true, true, true, true, true, true, true, true, true, true, true, true, true, true, true, true, true, true, true, true, true, true, true, true, true, true, true, true, true, true, true, true, true, true, false, false] (by kernel_rfl) (by kernel_rfl) ?_
            refine wpAnyH_take (i := 44) (oi := ⟨some 130, _, _, _, _, _⟩) (v := undef) rfl (by kernel_rfl) (by kernel_rfl) (by kernel_rfl) (fun _ _ _ h => h) (Or.inr ⟨by kernel_rfl, rfl⟩) hH2 ?_
            simp only [Act.put, List.setIfInBounds_toArray, List.set_cons_zero, List.set_cons_succ]
            refine wpAnyH_re 1 #[true, true, true, true, true, true, true, true, true, true, true, true, true, true, true, true, true, true, true, true, true, true, true, true, true, true, true, true, true, true, true, true, true, true, true, true, true, true, true, true, true, true, true, true, true, false] (by kernel_rfl) (by kernel_rfl) ?_
            refine wpAnyH_take (i := 45) (oi := ⟨some 131, _, _, _, _, _⟩) (v := .bool true) rfl (by kernel_rfl) (by kernel_rfl) (by kernel_rfl) (fun _ _ _ h => h) (Or.inl ⟨by kernel_rfl, fun w hS => by go_simp⟩) hH2 ?_
            simp only [Act.put, List.setIfInBounds_toArray, List.set_cons_zero, List.set_cons_succ]
            refine wpAnyH_done (by kernel_rfl) ?_ _
            have HM7 := Lib.hid (HM4.out.step HB1.out)
            clear hH2
            go_wp2_with fail
            go_ret
            exact ⟨by rw [HF.out]; rfl, HM7.out.below⟩
         | true =>
           refine wpAnyH_re 39 #[true, true, true, true, true, true, true, false, false, false, false, false, false, false, false, false, false, false, false, false, false, false, false, false, false, false, false, false, false, false, false, false, false, false, false, false, false, false, false, false, false, false, false, false, false, false] (by kernel_rfl) (by kernel_rfl) ?_
           refine wpAnyH_take (i := 7) (oi := ⟨some 93, _, _, _, _, _⟩) (v := .bool false) rfl (by kernel_rfl) (by kernel_rfl) (by kernel_rfl) (fun _ _ _ h => h) (Or.inl ⟨by kernel_rfl, fun w hS => by go_simp⟩) hH2 ?_
           simp only [Act.put, List.setIfInBounds_toArray, List.set_cons_zero, List.set_cons_succ]
           refine wpAnyH_re 38 #[true, true, true, true, true, true, true, true, false, false, false, false, false, false, false, false, false, false, false, false, false, false, false, false, false, false, false, false, false, false, false, false, false, false, false, false, false, false, false, false, false, false, false, false, false, false] (by kernel_rfl) (by kernel_rfl) ?_
           refine wpAnyH_take (i := 8) (oi := ⟨some 94, _, _, _, _, _⟩) (v := .bool false) rfl (by kernel_rfl) (by kernel_rfl) (by kernel_rfl) (fun _ _ _ h => h) (Or.inl ⟨by kernel_rfl, fun w hS => by go_simp⟩) hH2 ?_
           simp only [Act.put, List.setIfInBounds_toArray, List.set_cons_zero, List.set_cons_succ]
           refine wpAnyH_re 37 #[true, true, true, true, true, true, true, true, true, false, false, false, false, false, false, false, false, false, false, false, false, false, false, false, false, false, false, false, false, false, false, false, false, false, false, false, false, false, false, false, false, false, false, false, false, false] (by kernel_rfl) (by kernel_rfl) ?_
           refine wpAnyH_take (i := 9) (oi := ⟨some 95, _, _, _, _, _⟩) (v := .pointer (some ⟨gx, 2, none⟩)) rfl (by kernel_rfl) (by kernel_rfl) (by kernel_rfl) (fun _ _ _ h => h) (Or.inl ⟨by kernel_rfl, fun w hS => by go_simp⟩) hH2 ?_
           simp only [Act.put, List.setIfInBounds_toArray, List.set_cons_zero, List.set_cons_succ]
           refine wpAnyH_re 36 #[true, true, true, true, true, true, true, true, true, true, false, false, false, false, false, false, false, false, false, false, false, false, false, false, false, false, false, false, false, false, false, false, false, false, false, false, false, false, false, false, false, false, false, false, false, false] (by kernel_rfl) (by kernel_rfl) ?_
           refine wpAnyH_take (i := 10) (oi := ⟨some 96, _, _, _, _, _⟩) (v := .slice pa m1 pc) rfl (by kernel_rfl) (by kernel_rfl) (by kernel_rfl) (fun _ _ _ h => h) (Or.inl ⟨by kernel_rfl, fun w hS => by obtain ⟨⟨u0, u1, u2⟩, u3, u4, u5, u6, u7⟩ := hS; go_simp⟩) hH2 ?_
           simp only [Act.put, List.setIfInBounds_toArray, List.set_cons_zero, List.set_cons_succ]
           refine wpAnyH_re 35 #[true, true, true, true, true, true, true, true, true, true, true, false, false, false, false, false, false, false, false, false, false, false, false, false, false, false, false, false, false, false, false, false, false, false, false, false, false, false, false, false, false, false, false, false, false, false] (by kernel_rfl) (by kernel_rfl) ?_
           refine wpAnyH_take (i := 11) (oi := ⟨some 97, _, _, _, _, _⟩) (v := .pointer (some ⟨gl, 0, none⟩)) rfl (by kernel_rfl) (by kernel_rfl) (by kernel_rfl) (fun _ _ _ h => h) (Or.inl ⟨by kernel_rfl, fun w hS => by go_simp⟩) hH2 ?_
           simp only [Act.put, List.setIfInBounds_toArray, List.set_cons_zero, List.set_cons_succ]
           refine wpAnyH_re 34 #[true, true, true, true, true, true, true, true, true, true, true, true, false, false, false, false, false, false, false, false, false, false, false, false, false, false, false, false, false, false, false, false, false, false, false, false, false, false, false, false, false, false, false, false, false, false] (by kernel_rfl) (by kernel_rfl) ?_
           refine wpAnyH_take (i := 12) (oi := ⟨some 98, _, _, _, _, _⟩) (v := .slice a1 n1 c1) rfl (by kernel_rfl) (by kernel_rfl) (by kernel_rfl) (fun _ _ _ h => h) (Or.inl ⟨by kernel_rfl, fun w hS => by obtain ⟨⟨u0, u1, u2⟩, u3, u4, u5, u6, u7⟩ := hS; go_simp⟩) hH2 ?_
           simp only [Act.put, List.setIfInBounds_toArray, List.set_cons_zero, List.set_cons_succ]
           refine wpAnyH_re 33 #[true, true, true, true, true, true, true, true, true, true, true, true, true, false, false, false, false, false, false, false, false, false, false, false, false, false, false, false, false, false, false, false, false, false, false, false, false, false, false, false, false, false, false, false, false, false] (by kernel_rfl) (by kernel_rfl) ?_
           refine wpAnyH_take (i := 13) (oi := ⟨some 99, _, _, _, _, _⟩) (v := .int .i64 (n1 : Int)) rfl (by kernel_rfl) (by kernel_rfl) (by kernel_rfl) (fun _ _ _ h => h) (Or.inl ⟨by kernel_rfl, fun w hS => by go_simp⟩) hH2 ?_
           simp only [Act.put, List.setIfInBounds_toArray, List.set_cons_zero, List.set_cons_succ]
           refine wpAnyH_re 32 #[true, true, true, true, true, true, true, true, true, true, true, true, true, true, false, false, false, false, false, false, false, false, false, false, false, false, false, false, false, false, false, false, false, false, false, false, false, false, false, false, false, false, false, false, false, false] (by kernel_rfl) (by kernel_rfl) ?_
           refine wpAnyH_ready (rs := [14]) (by kernel_rfl) (by simp) (AllReadyH.cons (o := ⟨some 100, _, _, _, _, _⟩) rfl (fun K hK => ?_) AllReadyH.nil)
           go_simp
           refine (HQ1.out _ HB1.out).mono ?_
           rintro e w9 ⟨rfl, rfl⟩
           refine hK.out _ _ (HS9.out _ HB1.out) (fun hH3 => ?_)
           clear hK K hH2
           cases b1 with
           | false =>
             as_aux_lemma =>
              have HF := Lib.hid (may_no5 (L := L) (by rw [N1.out, N2.out, N3.out]; exact all_bad HY.out (rr_2 B1.out)))
              refine wpAnyH_re 31 #[true, true, true, true, true, true, true, true, true, true, true, true, true, true, true, false, false, false, false, false, false, false, false, false, false, false, false, false, false, false, false, false, false, false, false, false, false, false, false, false, false, false, false, false, false, false] (by kernel_rfl) (by kernel_rfl) ?_
              refine wpAnyH_take (i := 15) (oi := ⟨some 101, _, _, _, _, _⟩) (v := .bool true) rfl (by kernel_rfl) (by kernel_rfl) (by kernel_rfl) (fun _ _ _ h => h) (Or.inl ⟨by kernel_rfl, fun w hS => by go_simp⟩) hH3 ?_
              simp only [Act.put, List.setIfInBounds_toArray, List.set_cons_zero, List.set_cons_succ]
              refine wpAnyH_re 30 #[true, true, true, true, true, true, true, true, true, true, true, true, true, true, true, true, false, false, false, false, false, false, false, false, false, false, false, false, false, false, false, false, false, false, false, false, false, false, false, false, false, false, false, false, false, false] (by kernel_rfl) (by kernel_rfl) ?_
              refine wpAnyH_take (i := 16) (oi := ⟨some 102, _, _, _, _, _⟩) (v := .bool true) rfl (by kernel_rfl) (by kernel_rfl) (by kernel_rfl) (fun _ _ _ h => h) (Or.inl ⟨by kernel_rfl, fun w hS => by go_simp⟩) hH3 ?_
              simp only [Act.put, List.setIfInBounds_toArray, List.set_cons_zero, List.set_cons_succ]
              refine wpAnyH_re 29 #[true, true, true, true, true, true, true, true, true, true, true, true, true, true, true, true, true, false, false, false, false, false, false, false, false, false, false, false, false, false, false, false, false, false, false, false, false, false, false, false, false, false, false, false, false, false] (by kernel_rfl) (by kernel_rfl) ?_
              refine wpAnyH_take (i := 17) (oi := ⟨some 103, _, _, _, _, _⟩) (v := .bool true) rfl (by kernel_rfl) (by kernel_rfl) (by kernel_rfl) (fun _ _ _ h => h) (Or.inl ⟨by kernel_rfl, fun w hS => by go_simp⟩) hH3 ?_
              simp only [Act.put, List.setIfInBounds_toArray, List.set_cons_zero, List.set_cons_succ]
              refine wpAnyH_re 28 #[true, true, true, true, true, true, true, true, true, true, true, true, true, true, true, true, true, true, false, false, false, false, false, false, false, false, false, false, false, false, false, false, false, false, false, false, false, false, false, false, false, false, false, false, false, false] (by kernel_rfl) (by kernel_rfl) ?_
              refine wpAnyH_take (i := 18) (oi := ⟨some 104, _, _, _, _, _⟩) (v := undef) rfl (by kernel_rfl) (by kernel_rfl) (by kernel_rfl) (fun _ _ _ h => h) (Or.inr ⟨by kernel_rfl, rfl⟩) hH3 ?_
              simp only [Act.put, List.setIfInBounds_toArray, List.set_cons_zero, List.set_cons_succ]
              refine wpAnyH_re 27 #[true, true, true, true, true, true, true, true, true, true, true, true, true, true, true, true, true, true, true, false, false, false, false, false, false, false, false, false, false, false, false, false, false, false, false, false, false, false, false, false, false, false, false, false, false, false] (by kernel_rfl) (by kernel_rfl) ?_
              refine wpAnyH_take (i := 19) (oi := ⟨some 105, _, _, _, _, _⟩) (v := undef) rfl (by kernel_rfl) (by kernel_rfl) (by kernel_rfl) (fun _ _ _ h => h) (Or.inr ⟨by kernel_rfl, rfl⟩) hH3 ?_
              simp only [Act.put, List.setIfInBounds_toArray, List.set_cons_zero, List.set_cons_succ]
              refine wpAnyH_re 26 #[true, true, true, true, true, true, true, true, true, true, true, true, true, true, true, true, true, true, true, true, false, false, false, false, false, false, false, false, false, false, false, false, false, false, false, false, false, false, false, false, false, false, false, false, false, false] (by kernel_rfl) (by kernel_rfl) ?_
              refine wpAnyH_take (i := 20) (oi := ⟨some 106, _, _, _, _, _⟩) (v := undef) rfl (by kernel_rfl) (by kernel_rfl) (by kernel_rfl) (fun _ _ _ h => h) (Or.inr ⟨by kernel_rfl, rfl⟩) hH3 ?_
              simp only [Act.put, List.setIfInBounds_toArray, List.set_cons_zero, List.set_cons_succ]
              refine wpAnyH_re 25 #[true, true, true, true, true, true, true, true, true, true, true, true, true, true, true, true, true, true, true, true, true, false, false, false, false, false, false, false, false, false, false, false, false, false, false, false, false, false, false, false, false, false, false, false, false, false] (by kernel_rfl) (by kernel_rfl) ?_
              refine wpAnyH_take (i := 21) (oi := ⟨some 107, _, _, _, _, _⟩) (v := undef) rfl (by kernel_rfl) (by kernel_rfl) (by kernel_rfl) (fun _ _ _ h => h) (Or.inr ⟨by kernel_rfl, rfl⟩) hH3 ?_
              simp only [Act.put, List.setIfInBounds_toArray, List.set_cons_zero, List.set_cons_succ]
              refine wpAnyH_re 24 #[true, true, true, true, true, true, true, true, true, true, true, true, true, true, true, true, true, true, true, true, true, true, false, false, false, false, false, false, false, false, false, false, false, false, false, false, false, false, false, false, false, false, false, false, false, false] (by kernel_rfl) (by kernel_rfl) ?_
              refine wpAnyH_take (i := 22) (oi := ⟨some 108, _, _, _, _, _⟩) (v := undef) rfl (by kernel_rfl) (by kernel_rfl) (by kernel_rfl) (fun _ _ _ h => h) (Or.inr ⟨by kernel_rfl, rfl⟩) hH3 ?_
              simp only [Act.put, List.setIfInBounds_toArray, List.set_cons_zero, List.set_cons_succ]
              refine wpAnyH_re 23 #[true, true, true, true, true, true, true, true, true, true, true, true, true, true, true, true, true, true, true, true, true, true, true, false, false, false, false, false, false, false, false, false, false, false, false, false, false, false, false, false, false, false, false, false, false, false] (by kernel_rfl) (by kernel_rfl) ?_
              refine wpAnyH_take (i := 23) (oi := ⟨some 109, _, _, _, _, _⟩) (v := undef) rfl (by kernel_rfl) (by kernel_rfl) (by kernel_rfl) (fun _ _ _ h => h) (Or.inr ⟨by kernel_rfl, rfl⟩) hH3 ?_
              simp only [Act.put, List.setIfInBounds_toArray, List.set_cons_zero, List.set_cons_succ]
              refine wpAnyH_re 22 #[true, true, true, true, true, true, true, true, true, true, true, true, true, true, true, true, true, true, true, true, true, true, true, true, false, false, false, false, false, false, false, false, false, false, false, false, false, false, false, false, false, false, false, false, false, false] (by kernel_rfl) (by kernel_rfl) ?_
              refine wpAnyH_take (i := 24) (oi := ⟨some 110, _, _, _, _, _⟩) (v := undef) rfl (by kernel_rfl) (by kernel_rfl) (by kernel_rfl) (fun _ _ _ h => h) (Or.inr ⟨by kernel_rfl, rfl⟩) hH3 ?_
              simp only [Act.put, List.setIfInBounds_toArray, List.set_cons_zero, List.set_cons_succ]
              refine wpAnyH_re 21 #[true, true, true, true, true, true, true, true, true, true, true, true, true, true, true, true, true, true, true, true, true, true, true, true, true, false, false, false, false, false, false, false, false, false, false, false, false, false, false, false, false, false, false, false, false, false] (by kernel_rfl) (by kernel_rfl) ?_
              refine wpAnyH_take (i := 25) (oi := ⟨some 111, _, _, _, _, _⟩) (v := .bool true) rfl (by kernel_rfl) (by kernel_rfl) (by kernel_rfl) (fun _ _ _ h => h) (Or.inl ⟨by kernel_rfl, fun w hS => by go_simp⟩) hH3 ?_
              simp only [Act.put, List.setIfInBounds_toArray, List.set_cons_zero, List.set_cons_succ]
              refine wpAnyH_re 20 #[true, true, true, true, true, true, true, true, true, true, true, true, true, true, true, true, true, true, true, true, true, true, true, true, true, true, false, false, false, false, false, false, false, false, false, false, false, false, false, false, false, false, false, false, false, false] (by kernel_rfl) (by kernel_rfl) ?_
              refine wpAnyH_take (i := 26) (oi := ⟨some 112, _, _, _, _, _⟩) (v := .bool true) rfl (by kernel_rfl) (by kernel_rfl) (by kernel_rfl) (fun _ _ _ h => h) (Or.inl ⟨by kernel_rfl, fun w hS => by go_simp⟩) hH3 ?_
              simp only [Act.put, List.setIfInBounds_toArray, List.set_cons_zero, List.set_cons_succ]
              refine wpAnyH_re 19 #[true, true, true, true, true, true, true, true, true, true, true, true, true, true, true, true, true, true, true, true, true, true, true, true, true, true, true, false, false, false, false, false, false, false, false, false, false, false, false, false, false, false, false, false, false, false] (by kernel_rfl) (by kernel_rfl) ?_
              refine wpAnyH_take (i := 27) (oi := ⟨some 113, _, _, _, _, _⟩) (v := undef) rfl (by kernel_rfl) (by kernel_rfl) (by kernel_rfl) (fun _ _ _ h => h) (Or.inr ⟨by kernel_rfl, rfl⟩) hH3 ?_
              simp only [Act.put, List.setIfInBounds_toArray, List.set_cons_zero, List.set_cons_succ]
              refine wpAnyH_re 18 #[true, true, true, true, true, true, true, true, true, true, true, true, true, true, true, true, true, true, true, true, true, true, true, true, true, true, true, true, false, false, false, false, false, false, false, false, false, false, false, false, false, false, false, false, false, false] (by kernel_rfl) (by kernel_rfl) ?_
              refine wpAnyH_take (i := 28) (oi := ⟨some 114, _, _, _, _, _⟩) (v := undef) rfl (by kernel_rfl) (by kernel_rfl) (by kernel_rfl) (fun _ _ _ h => h) (Or.inr ⟨by kernel_rfl, rfl⟩) hH3 ?_
              simp only [Act.put, List.setIfInBounds_toArray, List.set_cons_zero, List.set_cons_succ]
              refine wpAnyH_re 17 #[true, true, true, true, true, true, true, true, true, true, true, true, true, true, true, true, true, true, true, true, true, true, true, true, true, true, true, true, true, false, false, false, false, false, false, false, false, false, false, false, false, false, false, false, false, false] (by kernel_rfl) (by kernel_rfl) ?_
              refine wpAnyH_take (i := 29) (oi := ⟨some 115, _, _, _, _, _⟩) (v := undef) rfl (by kernel_rfl) (by kernel_rfl) (by kernel_rfl) (fun _ _ _ h => h) (Or.inr ⟨by kernel_rfl, rfl⟩) hH3 ?_
              simp only [Act.put, List.setIfInBounds_toArray, List.set_cons_zero, List.set_cons_succ]
              refine wpAnyH_re 16 #[true, true, true, true, true, true, true, true, true, true, true, true, true, true, true, true, true, true, true, true, true, true, true, true, true, true, true, true, true, true, false, false, false, false, false, false, false, false, false, false, false, false, false, false, false, false] (by kernel_rfl) (by kernel_rfl) ?_
              refine wpAnyH_take (i := 30) (oi := ⟨some 116, _, _, _, _, _⟩) (v := undef) rfl (by kernel_rfl) (by kernel_rfl) (by kernel_rfl) (fun _ _ _ h => h) (Or.inr ⟨by kernel_rfl, rfl⟩) hH3 ?_
              simp only [Act.put, List.setIfInBounds_toArray, List.set_cons_zero, List.set_cons_succ]
              refine wpAnyH_re 15 #[true, true, true, true, true, true, true, true, true, true, true, true, true, true, true, true, true, true, true, true, true, true, true, true, true, true, true, true, true, true, true, false, false, false, false, false, false, false, false, false, false, false, false, false, false, false] (by kernel_rfl) (by kernel_rfl) ?_
              refine wpAnyH_take (i := 31) (oi := ⟨some 117, _, _, _, _, _⟩) (v := undef) rfl (by kernel_rfl) (by kernel_rfl) (by kernel_rfl) (fun _ _ _ h => h) (Or.inr ⟨by kernel_rfl, rfl⟩) hH3 ?_
              simp only [Act.put, List.setIfInBounds_toArray, List.set_cons_zero, List.set_cons_succ]
              refine wpAnyH_re 14 #[true, true, true, true, true, true, true, true, true, true, true, true, true, true, true, true, true, true, true, true, true, true, true, true, true, true, true, true, true, true, true, true, false, false, false, false, false, false, false, false, false, false, false, false, false, false] (by kernel_rfl) (by kernel_rfl) ?_
              refine wpAnyH_take (i := 32) (oi := ⟨some 118, _, _, _, _, _⟩) (v := undef) rfl (by kernel_rfl) (by kernel_rfl) (by kernel_rfl) (fun _ _ _ h => h) (Or.inr ⟨by kernel_rfl, rfl⟩) hH3 ?_
              simp only [Act.put, List.setIfInBounds_toArray, List.set_cons_zero, List.set_cons_succ]
              refine wpAnyH_re 13 #[true, true, true, true, true, true, true, true, true, true, true, true, true, true, true, true, true, true, true, true, true, true, true, true, true, true, true, true, true, true, true, true, true, false, false, false, false, false, false, false, false, false, false, false, false, false] (by kernel_rfl) (by kernel_rfl) ?_
              refine wpAnyH_take (i := 33) (oi := ⟨some 119, _, _, _, _, _⟩) (v := undef) rfl (by kernel_rfl) (by kernel_rfl) (by kernel_rfl) (fun _ _ _ h => h) (Or.inr ⟨by kernel_rfl, rfl⟩) hH3 ?_
              simp only [Act.put, List.setIfInBounds_toArray, List.set_cons_zero, List.set_cons_succ]
              refine wpAnyH_re 12 #[true, true, true, true, true, true, true, true, true, true, true, true, true, true, true, true, true, true, true, true, true, true, true, true, true, true, true, true, true, true, true, true, true, true, false, false, false, false, false, false, false, false, false, false, false, false] (by kernel_rfl) (by kernel_rfl) ?_
              refine wpAnyH_take (i := 34) (oi := ⟨some 120, _, _, _, _, _⟩) (v := undef) rfl (by kernel_rfl) (by kernel_rfl) (by kernel_rfl) (fun _ _ _ h => h) (Or.inr ⟨by kernel_rfl, rfl⟩) hH3 ?_
              simp only [Act.put, List.setIfInBounds_toArray, List.set_cons_zero, List.set_cons_succ]
              refine wpAnyH_re 11 #[true, true, true, true, true, true, true, true, true, true, true, true, true, true, true, true, true, true, true, true, true, true, true, true, true, true, true, true, true, true, true, true, true, true, true, false, false, false, false, false, false, false, false, false, false, false] (by kernel_rfl) (by kernel_rfl) ?_
              refine wpAnyH_take (i := 35) (oi := ⟨some 121, _, _, _, _, _⟩) (v := .bool true) rfl (by kernel_rfl) (by kernel_rfl) (by kernel_rfl) (fun _ _ _ h => h) (Or.inl ⟨by kernel_rfl, fun w hS => by go_simp⟩) hH3 ?_
              simp only [Act.put, List.setIfInBounds_toArray, List.set_cons_zero, List.set_cons_succ]
              refine wpAnyH_re 10 #[true, true, true, true, true, true, true, true, true, true, true, true, true, true, true, true, true, true, true, true, true, true, true, true, true, true, true, true, true, true, true, true, true, true, true, true, false, false, false, false, false, false, false, false, false, false] (by kernel_rfl) (by kernel_rfl) ?_
              refine wpAnyH_take (i := 36) (oi := ⟨some 122, _, _, _, _, _⟩) (v := .bool true) rfl (by kernel_rfl) (by kernel_rfl) (by kernel_rfl) (fun _ _ _ h => h) (Or.inl ⟨by kernel_rfl, fun w hS => by go_simp⟩) hH3 ?_
              simp only [Act.put, List.setIfInBounds_toArray, List.set_cons_zero, List.set_cons_succ]
              refine wpAnyH_re 9 #[true, true, true, true, true, true, true, true, true, true, true, true, true, true, true, true, true, true, true, true, true, true, true, true, true, true, true, true, true, true, true, true, true, true, true, true, true, false, false, false, false, false, false, false, false, false] (by kernel_rfl) (by kernel_rfl) ?_
              refine wpAnyH_take (i := 37) (oi := ⟨some 123, _, _, _, _, _⟩) (v := undef) rfl (by kernel_rfl) (by kernel_rfl) (by kernel_rfl) (fun _ _ _ h => h) (Or.inr ⟨by kernel_rfl, rfl⟩) hH3 ?_
              simp only [Act.put, List.setIfInBounds_toArray, List.set_cons_zero, List.set_cons_succ]
              refine wpAnyH_re 8 #[true, true, true, true, true, true, true, true, true, true, true, true, true, true, true, true, true, true, true, true, true, true, true, true, true, true, true, true, true, true, true, true, true, true, true, true, true, true, false, false, false, false, false, false, false, false] (by kernel_rfl) (by kernel_rfl) ?_
              refine wpAnyH_take (i := 38) (oi := ⟨some 124, _, _, _, _, _⟩) (v := undef) rfl (by kernel_rfl) (by kernel_rfl) (by kernel_rfl) (fun _ _ _ h => h) (Or.inr ⟨by kernel_rfl, rfl⟩) hH3 ?_
              simp only [Act.put, List.setIfInBounds_toArray, List.set_cons_zero, List.set_cons_succ]
              refine wpAnyH_re 7 #[true, true, true, true, true, true, true, true, true, true, true, true, true, true, true, true, true, true, true, true, true, true, true, true, true, true, true, true, true, true, true, true, true, true, true, true, true, true, true, false, false, false, false, false, false, false] (by kernel_rfl) (by kernel_rfl) ?_
              refine wpAnyH_take (i := 39) (oi := ⟨some 125, _, _, _, _, _⟩) (v := undef) rfl (by kernel_rfl) (by kernel_rfl) (by kernel_rfl) (fun _ _ _ h => h) (Or.inr ⟨by kernel_rfl, rfl⟩) hH3 ?_
              simp only [Act.put, List.setIfInBounds_toArray, List.set_cons_zero, List.set_cons_succ]
              refine wpAnyH_re 6 #[true, true, true, true, true, true, true, true, true, true, true, true, true, true, true, true, true, true, true, true, true, true, true, true, true, true, true, true, true, true, true, true, true, true, true, true, true, true, true, true, false, false, false, false, false, false] (by kernel_rfl) (by kernel_rfl) ?_
              refine wpAnyH_take (i := 40) (oi := ⟨some 126, _, _, _, _, _⟩) (v := undef) rfl (by kernel_rfl) (by kernel_rfl) (by kernel_rfl) (fun _ _ _ h => h) (Or.inr ⟨by kernel_rfl, rfl⟩) hH3 ?_
              simp only [Act.put, List.setIfInBounds_toArray, List.set_cons_zero, List.set_cons_succ]
              refine wpAnyH_re 5 #[true, true, true, true, true, true, true, true, true, true, true, true, true, true, true, true, true, true, true, true, true, true, true, true, true, true, true, true, true, true, true, true, true, true, true, true, true, true, true, true, true, false, false, false, false, false] (by kernel_rfl) (by kernel_rfl) ?_
              refine wpAnyH_take (i := 41) (oi := ⟨some 127, _, _, _, _, _⟩) (v := undef) rfl (by kernel_rfl) (by kernel_rfl) (by kernel_rfl) (fun _ _ _ h => h) (Or.inr ⟨by kernel_rfl, rfl⟩) hH3 ?_
              simp only [Act.put, List.setIfInBounds_toArray, List.set_cons_zero, List.set_cons_succ]
              refine wpAnyH_re 4 #[true, true, true, true, true, true, true, true, true, true, true, true, true, true, true, true, true, true, true, true, true, true, true, true, true, true, true, true, true, true, true, true, true, true, true, true, true, true, true, true, true, true, false, false, false, false] (by kernel_rfl) (by kernel_rfl) ?_
              refine wpAnyH_take (i := 42) (oi := ⟨some 128, _, _, _, _, _⟩) (v := undef) rfl (by kernel_rfl) (by kernel_rfl) (by kernel_rfl) (fun _ _ _ h => h) (Or.inr ⟨by kernel_rfl, rfl⟩) hH3 ?_
              simp only [Act.put, List.setIfInBounds_toArray, List.set_cons_zero, List.set_cons_succ]
              refine wpAnyH_re 3 #[true, true, true, true, true, true, true, true, true, true, true, true, true, true, true, true, true, true, true, true, true, true, true, true, true, true, true, true, true, true, true, true, true, true, true, true, true, true, true, true, true, true, true, false, false, false] (by kernel_rfl) (by kernel_rfl) ?_
              refine wpAnyH_take (i := 43) (oi := ⟨some 129, _, _, _, _, _⟩) (v := undef) rfl (by kernel_rfl) (by kernel_rfl) (by kernel_rfl) (fun _ _ _ h => h) (Or.inr ⟨by kernel_rfl, rfl⟩) hH3 ?_
              simp only [Act.put, List.setIfInBounds_toArray, List.set_cons_zero, List.set_cons_succ]
              refine wpAnyH_re 2 #[true, true, true, true, true, true, true, true, true, true, true, true, true, true, true, true, true, true, true, true, true, true, true, true, true, true, true, true, true, true, true, true, true, true, true, true, true, true, true, true, true, true, true, true, false, false] (by kernel_rfl) (by kernel_rfl) ?_
              refine wpAnyH_take (i := 44) (oi := ⟨some 130, _, _, _, _, _⟩) (v := undef) rfl (by kernel_rfl) (by kernel_rfl) (by kernel_rfl) (fun _ _ _ h => h) (Or.inr ⟨by kernel_rfl, rfl⟩) hH3 ?_
              simp only [Act.put, List.setIfInBounds_toArray, List.set_cons_zero, List.set_cons_succ]
              refine wpAnyH_re 1 #[true, true, true, true, true, true, true, true, true, true, true, true, true, true, true, true, true, true, true, true, true, true, true, true, true, true, true, true, true, true, true, true, true, true, true, true, true, true, true, true, true, true, true, true, true, false] (by kernel_rfl) (by kernel_rfl) ?_
              refine wpAnyH_take (i := 45) (oi := ⟨some 131, _, _, _, _, _⟩) (v := .bool true) rfl (by kernel_rfl) (by kernel_rfl) (by kernel_rfl) (fun _ _ _ h => h) (Or.inl ⟨by kernel_rfl, fun w hS => by go_simp⟩) hH3 ?_
              simp only [Act.put, List.setIfInBounds_toArray, List.set_cons_zero, List.set_cons_succ]
              refine wpAnyH_done (by kernel_rfl) ?_ _
              have HM7 := Lib.hid (HM4.out.step HB1.out)
              clear hH3
              go_wp2_with fail
              go_ret
              exact ⟨by rw [HF.out]; rfl, HM7.out.below⟩
           | true =>
             refine wpAnyH_re 31 #[true, true, true, true, true, true, true, true, true, true, true, true, true, true, true, false, false, false, false, false, false, false, false, false, false, false, false, false, false, false, false, false, false, false, false, false, false, false, false, false, false, false, false, false, false, false] (by kernel_rfl) (by kernel_rfl) ?_
             refine wpAnyH_take (i := 15) (oi := ⟨some 101, _, _, _, _, _⟩) (v := .bool false) rfl (by kernel_rfl) (by kernel_rfl) (by kernel_rfl) (fun _ _ _ h => h) (Or.inl ⟨by kernel_rfl, fun w hS => by go_simp⟩) hH3 ?_
             simp only [Act.put, List.setIfInBounds_toArray, List.set_cons_zero, List.set_cons_succ]
             refine wpAnyH_re 30 #[true, true, true, true, true, true, true, true, true, true, true, true, true, true, true, true, false, false, false, false, false, false, false, false, false, false, false, false, false, false, false, false, false, false, false, false, false, false, false, false, false, false, false, false, false, false] (by kernel_rfl) (by kernel_rfl) ?_
             refine wpAnyH_take (i := 16) (oi := ⟨some 102, _, _, _, _, _⟩) (v := .bool false) rfl (by kernel_rfl) (by kernel_rfl) (by kernel_rfl) (fun _ _ _ h => h) (Or.inl ⟨by kernel_rfl, fun w hS => by go_simp⟩) hH3 ?_
             simp only [Act.put, List.setIfInBounds_toArray, List.set_cons_zero, List.set_cons_succ]
             refine wpAnyH_re 29 #[true, true, true, true, true, true, true, true, true, true, true, true, true, true, true, true, true, false, false, false, false, false, false, false, false, false, false, false, false, false, false, false, false, false, false, false, false, false, false, false, false, false, false, false, false, false] (by kernel_rfl) (by kernel_rfl) ?_
             refine wpAnyH_take (i := 17) (oi := ⟨some 103, _, _, _, _, _⟩) (v := .bool false) rfl (by kernel_rfl) (by kernel_rfl) (by kernel_rfl) (fun _ _ _ h => h) (Or.inl ⟨by kernel_rfl, fun w hS => by go_simp⟩) hH3 ?_
             simp only [Act.put, List.setIfInBounds_toArray, List.set_cons_zero, List.set_cons_succ]
             refine wpAnyH_re 28 #[true, true, true, true, true, true, true, true, true, true, true, true, true, true, true, true, true, true, false, false, false, false, false, false, false, false, false, false, false, false, false, false, false, false, false, false, false, false, false, false, false, false, false, false, false, false] (by kernel_rfl) (by kernel_rfl) ?_
             refine wpAnyH_take (i := 18) (oi := ⟨some 104, _, _, _, _, _⟩) (v := .pointer (some ⟨gx, 4, none⟩)) rfl (by kernel_rfl) (by kernel_rfl) (by kernel_rfl) (fun _ _ _ h => h) (Or.inl ⟨by kernel_rfl, fun w hS => by go_simp⟩) hH3 ?_
             simp only [Act.put, List.setIfInBounds_toArray, List.set_cons_zero, List.set_cons_succ]
             refine wpAnyH_re 27 #[true, true, true, true, true, true, true, true, true, true, true, true, true, true, true, true, true, true, true, false, false, false, false, false, false, false, false, false, false, false, false, false, false, false, false, false, false, false, false, false, false, false, false, false, false, false] (by kernel_rfl) (by kernel_rfl) ?_
             refine wpAnyH_take (i := 19) (oi := ⟨some 105, _, _, _, _, _⟩) (v := .slice va m3 vc) rfl (by kernel_rfl) (by kernel_rfl) (by kernel_rfl) (fun _ _ _ h => h) (Or.inl ⟨by kernel_rfl, fun w hS => by obtain ⟨⟨u0, u1, u2⟩, u3, u4, u5, u6, u7⟩ := hS; go_simp⟩) hH3 ?_
             simp only [Act.put, List.setIfInBounds_toArray, List.set_cons_zero, List.set_cons_succ]
             refine wpAnyH_re 26 #[true, true, true, true, true, true, true, true, true, true, true, true, true, true, true, true, true, true, true, true, false, false, false, false, false, false, false, false, false, false, false, false, false, false, false, false, false, false, false, false, false, false, false, false, false, false] (by kernel_rfl) (by kernel_rfl) ?_
             refine wpAnyH_take (i := 20) (oi := ⟨some 106, _, _, _, _, _⟩) (v := .pointer (some ⟨gl, 0, none⟩)) rfl (by kernel_rfl) (by kernel_rfl) (by kernel_rfl) (fun _ _ _ h => h) (Or.inl ⟨by kernel_rfl, fun w hS => by go_simp⟩) hH3 ?_
             simp only [Act.put, List.setIfInBounds_toArray, List.set_cons_zero, List.set_cons_succ]
             refine wpAnyH_re 25 #[true, true, true, true, true, true, true, true, true, true, true, true, true, true, true, true, true, true, true, true, true, false, false, false, false, false, false, false, false, false, false, false, false, false, false, false, false, false, false, false, false, false, false, false, false, false] (by kernel_rfl) (by kernel_rfl) ?_
             refine wpAnyH_take (i := 21) (oi := ⟨some 107, _, _, _, _, _⟩) (v := .slice a1 n1 c1) rfl (by kernel_rfl) (by kernel_rfl) (by kernel_rfl) (fun _ _ _ h => h) (Or.inl ⟨by kernel_rfl, fun w hS => by obtain ⟨⟨u0, u1, u2⟩, u3, u4, u5, u6, u7⟩ := hS; go_simp⟩) hH3 ?_
             simp only [Act.put, List.setIfInBounds_toArray, List.set_cons_zero, List.set_cons_succ]
             refine wpAnyH_re 24 #[true, true, true, true, true, true, true, true, true, true, true, true, true, true, true, true, true, true, true, true, true, true, false, false, false, false, false, false, false, false, false, false, false, false, false, false, false, false, false, false, false, false, false, false, false, false] (by kernel_rfl) (by kernel_rfl) ?_
             refine wpAnyH_take (i := 22) (oi := ⟨some 108, _, _, _, _, _⟩) (v := .int .i64 (n1 : Int)) rfl (by kernel_rfl) (by kernel_rfl) (by kernel_rfl) (fun _ _ _ h => h) (Or.inl ⟨by kernel_rfl, fun w hS => by go_simp⟩) hH3 ?_
             simp only [Act.put, List.setIfInBounds_toArray, List.set_cons_zero, List.set_cons_succ]
             refine wpAnyH_re 23 #[true, true, true, true, true, true, true, true, true, true, true, true, true, true, true, true, true, true, true, true, true, true, true, false, false, false, false, false, false, false, false, false, false, false, false, false, false, false, false, false, false, false, false, false, false, false] (by kernel_rfl) (by kernel_rfl) ?_
             refine wpAnyH_ready (rs := [23]) (by kernel_rfl) (by simp) (AllReadyH.cons (o := ⟨some 109, _, _, _, _, _⟩) rfl (fun K hK => ?_) AllReadyH.nil)
             go_simp
             refine (HQ2.out _ HB1.out).mono ?_
             rintro e w9 ⟨rfl, rfl⟩
             refine hK.out _ _ (HS9.out _ HB1.out) (fun hH4 => ?_)
             clear hK K hH3
             cases b2 with
             | false =>
               as_aux_lemma =>
                have HF := Lib.hid (may_no5 (L := L) (by rw [N1.out, N2.out, N3.out]; exact all_bad HY.out (rr_3 B2.out)))
                refine wpAnyH_re 22 #[true, true, true, true, true, true, true, true, true, true, true, true, true, true, true, true, true, true, true, true, true, true, true, true, false, false, false, false, false, false, false, false, false, false, false, false, false, false, false, false, false, false, false, false, false, false] (by kernel_rfl) (by kernel_rfl) ?_
                refine wpAnyH_take (i := 24) (oi := ⟨some 110, _, _, _, _, _⟩) (v := .bool true) rfl (by kernel_rfl) (by kernel_rfl) (by kernel_rfl) (fun _ _ _ h => h) (Or.inl ⟨by kernel_rfl, fun w hS => by go_simp⟩) hH4 ?_
                simp only [Act.put, List.setIfInBounds_toArray, List.set_cons_zero, List.set_cons_succ]
                refine wpAnyH_re 21 #[true, true, true, true, true, true, true, true, true, true, true, true, true, true, true, true, true, true, true, true, true, true, true, true, true, false, false, false, false, false, false, false, false, false, false, false, false, false, false, false, false, false, false, false, false, false] (by kernel_rfl) (by kernel_rfl) ?_
                refine wpAnyH_take (i := 25) (oi := ⟨some 111, _, _, _, _, _⟩) (v := .bool true) rfl (by kernel_rfl) (by kernel_rfl) (by kernel_rfl) (fun _ _ _ h => h) (Or.inl ⟨by kernel_rfl, fun w hS => by go_simp⟩) hH4 ?_
                simp only [Act.put, List.setIfInBounds_toArray, List.set_cons_zero, List.set_cons_succ]
                refine wpAnyH_re 20 #[true, true, true, true, true, true, true, true, true, true, true, true, true, true, true, true, true, true, true, true, true, true, true, true, true, true, false, false, false, false, false, false, false, false, false, false, false, false, false, false, false, false, false, false, false, false] (by kernel_rfl) (by kernel_rfl) ?_
                refine wpAnyH_take (i := 26) (oi := ⟨some 112, _, _, _, _, _⟩) (v := .bool true) rfl (by kernel_rfl) (by kernel_rfl) (by kernel_rfl) (fun _ _ _ h => h) (Or.inl ⟨by kernel_rfl, fun w hS => by go_simp⟩) hH4 ?_
                simp only [Act.put, List.setIfInBounds_toArray, List.set_cons_zero, List.set_cons_succ]
                refine wpAnyH_re 19 #[true, true, true, true, true, true, true, true, true, true, true, true, true, true, true, true, true, true, true, true, true, true, true, true, true, true, true, false, false, false, false, false, false, false, false, false, false, false, false, false, false, false, false, false, false, false] (by kernel_rfl) (by kernel_rfl) ?_
                refine wpAnyH_take (i := 27) (oi := ⟨some 113, _, _, _, _, _⟩) (v := undef) rfl (by kernel_rfl) (by kernel_rfl) (by kernel_rfl) (fun _ _ _ h => h) (Or.inr ⟨by kernel_rfl, rfl⟩) hH4 ?_
                simp only [Act.put, List.setIfInBounds_toArray, List.set_cons_zero, List.set_cons_succ]
                refine wpAnyH_re 18 #[true, true, true, true, true, true, true, true, true, true, true, true, true, true, true, true, true, true, true, true, true, true, true, true, true, true, true, true, false, false, false, false, false, false, false, false, false, false, false, false, false, false, false, false, false, false] (by kernel_rfl) (by kernel_rfl) ?_
                refine wpAnyH_take (i := 28) (oi := ⟨some 114, _, _, _, _, _⟩) (v := undef) rfl (by kernel_rfl) (by kernel_rfl) (by kernel_rfl) (fun _ _ _ h => h) (Or.inr ⟨by kernel_rfl, rfl⟩) hH4 ?_
                simp only [Act.put, List.setIfInBounds_toArray, List.set_cons_zero, List.set_cons_succ]
                refine wpAnyH_re 17 #[true, true, true, true, true, true, true, true, true, true, true, true, true, true, true, true, true, true, true, true, true, true, true, true, true, true, true, true, true, false, false, false, false, false, false, false, false, false, false, false, false, false, false, false, false, false] (by kernel_rfl) (by kernel_rfl) ?_
                refine wpAnyH_take (i := 29) (oi := ⟨some 115, _, _, _, _, _⟩) (v := undef) rfl (by kernel_rfl) (by kernel_rfl) (by kernel_rfl) (fun _ _ _ h => h) (Or.inr ⟨by kernel_rfl, rfl⟩) hH4 ?_
                simp only [Act.put, List.setIfInBounds_toArray, List.set_cons_zero, List.set_cons_succ]
                refine wpAnyH_re 16 #[true, true, true, true, true, true, true, true, true, true, true, true, true, true, true, true, true, true, true, true, true, true, true, true, true, true, true, true, true, true, false, false, false, false, false, false, false, false, false, false, false, false, false, false, false, false] (by kernel_rfl) (by kernel_rfl) ?_
                refine wpAnyH_take (i := 30) (oi := ⟨some 116, _, _, _, _, _⟩) (v := undef) rfl (by kernel_rfl) (by kernel_rfl) (by kernel_rfl) (fun _ _ _ h => h) (Or.inr ⟨by kernel_rfl, rfl⟩) hH4 ?_
                simp only [Act.put, List.setIfInBounds_toArray, List.set_cons_zero, List.set_cons_succ]
                refine wpAnyH_re 15 #[true, true, true, true, true, true, true, true, true, true, true, true, true, true, true, true, true, true, true, true, true, true, true, true, true, true, true, true, true, true, true, false, false, false, false, false, false, false, false, false, false, false, false, false, false, false] (by kernel_rfl) (by kernel_rfl) ?_
                refine wpAnyH_take (i := 31) (oi := ⟨some 117, _, _, _, _, _⟩) (v := undef) rfl (by kernel_rfl) (by kernel_rfl) (by kernel_rfl) (fun _ _ _ h => h) (Or.inr ⟨by kernel_rfl, rfl⟩) hH4 ?_
                simp only [Act.put, List.setIfInBounds_toArray, List.set_cons_zero, List.set_cons_succ]
                refine wpAnyH_re 14 #[true, true, true, true, true, true, true, true, true, true, true, true, true, true, true, true, true, true, true, true, true, true, true, true, true, true, true, true, true, true, true, true, false, false, false, false, false, false, false, false, false, false, false, false, false, false] (by kernel_rfl) (by kernel_rfl) ?_
                refine wpAnyH_take (i := 32) (oi := ⟨some 118, _, _, _, _, _⟩) (v := undef) rfl (by kernel_rfl) (by kernel_rfl) (by kernel_rfl) (fun _ _ _ h => h) (Or.inr ⟨by kernel_rfl, rfl⟩) hH4 ?_
                simp only [Act.put, List.setIfInBounds_toArray, List.set_cons_zero, List.set_cons_succ]
                refine wpAnyH_re 13 #[true, true, true, true, true, true, true, true, true, true, true, true, true, true, true, true, true, true, true, true, true, true, true, true, true, true, true, true, true, true, true, true, true, false, false, false, false, false, false, false, false, false, false, false, false, false] (by kernel_rfl) (by kernel_rfl) ?_
                refine wpAnyH_take (i := 33) (oi := ⟨some 119, _, _, _, _, _⟩) (v := undef) rfl (by kernel_rfl) (by kernel_rfl) (by kernel_rfl) (fun _ _ _ h => h) (Or.inr ⟨by kernel_rfl, rfl⟩) hH4 ?_
                simp only [Act.put, List.setIfInBounds_toArray, List.set_cons_zero, List.set_cons_succ]
                refine wpAnyH_re 12 #[true, true, true, true, true, true, true, true, true, true, true, true, true, true, true, true, true, true, true, true, true, true, true, true, true, true, true, true, true, true, true, true, true, true, false, false, false, false, false, false, false, false, false, false, false, false] (by kernel_rfl) (by kernel_rfl) ?_
                refine wpAnyH_take (i := 34) (oi := ⟨some 120, _, _, _, _, _⟩) (v := undef) rfl (by kernel_rfl) (by kernel_rfl) (by kernel_rfl) (fun _ _ _ h => h) (Or.inr ⟨by kernel_rfl, rfl⟩) hH4 ?_
                simp only [Act.put, List.setIfInBounds_toArray, List.set_cons_zero, List.set_cons_succ]
                refine wpAnyH_re 11 #[true, true, true, true, true, true, true, true, true, true, true, true, true, true, true, true, true, true, true, true, true, true, true, true, true, true, true, true, true, true, true, true, true, true, true, false, false, false, false, false, false, false, false, false, false, false] (by kernel_rfl) (by kernel_rfl) ?_
                refine wpAnyH_take (i := 35) (oi := ⟨some 121, _, _, _, _, _⟩) (v := .bool true) rfl (by kernel_rfl) (by kernel_rfl) (by kernel_rfl) (fun _ _ _ h => h) (Or.inl ⟨by kernel_rfl, fun w hS => by go_simp⟩) hH4 ?_
                simp only [Act.put, List.setIfInBounds_toArray, List.set_cons_zero, List.set_cons_succ]
                refine wpAnyH_re 10 #[true, true, true, true, true, true, true, true, true, true, true, true, true, true, true, true, true, true, true, true, true, true, true, true, true, true, true, true, true, true, true, true, true, true, true, true, false, false, false, false, false, false, false, false, false, false] (by kernel_rfl) (by kernel_rfl) ?_
                refine wpAnyH_take (i := 36) (oi := ⟨some 122, _, _, _, _, _⟩) (v := .bool true) rfl (by kernel_rfl) (by kernel_rfl) (by kernel_rfl) (fun _ _ _ h => h) (Or.inl ⟨by kernel_rfl, fun w hS => by go_simp⟩) hH4 ?_
                simp only [Act.put, List.setIfInBounds_toArray, List.set_cons_zero, List.set_cons_succ]
                refine wpAnyH_re 9 #[true, true, true, true, true, true, true, true, true, true, true, true, true, true, true, true, true, true, true, true, true, true, true, true, true, true, true, true, true, true, true, true, true, true, true, true, true, false, false, false, false, false, false, false, false, false] (by kernel_rfl) (by kernel_rfl) ?_
                refine wpAnyH_take (i := 37) (oi := ⟨some 123, _, _, _, _, _⟩) (v := undef) rfl (by kernel_rfl) (by kernel_rfl) (by kernel_rfl) (fun _ _ _ h => h) (Or.inr ⟨by kernel_rfl, rfl⟩) hH4 ?_
                simp only [Act.put, List.setIfInBounds_toArray, List.set_cons_zero, List.set_cons_succ]
                refine wpAnyH_re 8 #[true, true, true, true, true, true, true, true, true, true, true, true, true, true, true, true, true, true, true, true, true, true, true, true, true, true, true, true, true, true, true, true, true, true, true, true, true, true, false, false, false, false, false, false, false, false] (by kernel_rfl) (by kernel_rfl) ?_
                refine wpAnyH_take (i := 38) (oi := ⟨some 124, _, _, _, _, _⟩) (v := undef) rfl (by kernel_rfl) (by kernel_rfl) (by kernel_rfl) (fun _ _ _ h => h) (Or.inr ⟨by kernel_rfl, rfl⟩) hH4 ?_
                simp only [Act.put, List.setIfInBounds_toArray, List.set_cons_zero, List.set_cons_succ]
                refine wpAnyH_re 7 #[true, true, true, true, true, true, true, true, true, true, true, true, true, true, true, true, true, true, true, true, true, true, true, true, true, true, true, true, true, true, true, true, true, true, true, true, true, true, true, false, false, false, false, false, false, false] (by kernel_rfl) (by kernel_rfl) ?_
                refine wpAnyH_take (i := 39) (oi := ⟨some 125, _, _, _, _, _⟩) (v := undef) rfl (by kernel_rfl) (by kernel_rfl) (by kernel_rfl) (fun _ _ _ h => h) (Or.inr ⟨by kernel_rfl, rfl⟩) hH4 ?_
                simp only [Act.put, List.setIfInBounds_toArray, List.set_cons_zero, List.set_cons_succ]
                refine wpAnyH_re 6 #[true, true, true, true, true, true, true, true, true, true, true, true, true, true, true, true, true, true, true, true, true, true, true, true, true, true, true, true, true, true, true, true, true, true, true, true, true, true, true, true, false, false, false, false, false, false] (by kernel_rfl) (by kernel_rfl) ?_
                refine wpAnyH_take (i := 40) (oi := ⟨some 126, _, _, _, _, _⟩) (v := undef) rfl (by kernel_rfl) (by kernel_rfl) (by kernel_rfl) (fun _ _ _ h => h) (Or.inr ⟨by kernel_rfl, rfl⟩) hH4 ?_
                simp only [Act.put, List.setIfInBounds_toArray, List.set_cons_zero, List.set_cons_succ]
                refine wpAnyH_re 5 #[true, true, true, true, true, true, true, true, true, true, true, true, true, true, true, true, true, true, true, true, true, true, true, true, true, true, true, true, true, true, true, true, true, true, true, true, true, true, true, true, true, false, false, false, false, false] (by kernel_rfl) (by kernel_rfl) ?_
                refine wpAnyH_take (i := 41) (oi := ⟨some 127, _, _, _, _, _⟩) (v := undef) rfl (by kernel_rfl) (by kernel_rfl) (by kernel_rfl) (fun _ _ _ h => h) (Or.inr ⟨by kernel_rfl, rfl⟩) hH4 ?_
                simp only [Act.put, List.setIfInBounds_toArray, List.set_cons_zero, List.set_cons_succ]
                refine wpAnyH_re 4 #[true, true, true, true, true, true, true, true, true, true, true, true, true, true, true, true, true, true, true, true, true, true, true, true, true, true, true, true, true, true, true, true, true, true, true, true, true, true, true, true, true, true, false, false, false, false] (by kernel_rfl) (by kernel_rfl) ?_
                refine wpAnyH_take (i := 42) (oi := ⟨some 128, _, _, _, _, _⟩) (v := undef) rfl (by kernel_rfl) (by kernel_rfl) (by kernel_rfl) (fun _ _ _ h => h) (Or.inr ⟨by kernel_rfl, rfl⟩) hH4 ?_
                simp only [Act.put, List.setIfInBounds_toArray, List.set_cons_zero, List.set_cons_succ]
                refine wpAnyH_re 3 #[true, true, true, true, true, true, true, true, true, true, true, true, true, true, true, true, true, true, true, true, true, true, true, true, true, true, true, true, true, true, true, true, true, true, true, true, true, true, true, true, true, true, true, false, false, false] (by kernel_rfl) (by kernel_rfl) ?_
                refine wpAnyH_take (i := 43) (oi := ⟨some 129, _, _, _, _, _⟩) (v := undef) rfl (by kernel_rfl) (by kernel_rfl) (by kernel_rfl) (fun _ _ _ h => h) (Or.inr ⟨by kernel_rfl, rfl⟩) hH4 ?_
                simp only [Act.put, List.setIfInBounds_toArray, List.set_cons_zero, List.set_cons_succ]
                refine wpAnyH_re 2 #[true, true, true, true, true, true, true, true, true, true, true, true, true, true, true, true, true, true, true, true, true, true, true, true, true, true, true, true, true, true, true, true, true, true, true, true, true, true, true, true, true, true, true, true, false, false] (by kernel_rfl) (by kernel_rfl) ?_
                refine wpAnyH_take (i := 44) (oi := ⟨some 130, _, _, _, _, _⟩) (v := undef) rfl (by kernel_rfl) (by kernel_rfl) (by kernel_rfl) (fun _ _ _ h => h) (Or.inr ⟨by kernel_rfl, rfl⟩) hH4 ?_
                simp only [Act.put, List.setIfInBounds_toArray, List.set_cons_zero, List.set_cons_succ]
                refine wpAnyH_re 1 #[true, true, true, true, true, true, true, true, true, true, true, true, true, true, true, true, true, true, true, true, true, true, true, true, true, true, true, true, true, true, true, true, true, true, true, true, true, true, true, true, true, true, true, true, true, false] (by kernel_rfl) (by kernel_rfl) ?_
                refine wpAnyH_take (i := 45) (oi := ⟨some 131, _, _, _, _, _⟩) (v := .bool true) rfl (by kernel_rfl) (by kernel_rfl) (by kernel_rfl) (fun _ _ _ h => h) (Or.inl ⟨by kernel_rfl, fun w hS => by go_simp⟩) hH4 ?_
                simp only [Act.put, List.setIfInBounds_toArray, List.set_cons_zero, List.set_cons_succ]
                refine wpAnyH_done (by kernel_rfl) ?_ _
                have HM7 := Lib.hid (HM4.out.step HB1.out)
                clear hH4
                go_wp2_with fail
                go_ret
                exact ⟨by rw [HF.out]; rfl, HM7.out.below⟩
             | true =>
               refine wpAnyH_re 22 #[true, true, true, true, true, true, true, true, true, true, true, true, true, true, true, true, true, true, true, true, true, true, true, true, false, false, false, false, false, false, false, false, false, false, false, false, false, false, false, false, false, false, false, false, false, false] (by kernel_rfl) (by kernel_rfl) ?_
               refine wpAnyH_take (i := 24) (oi := ⟨some 110, _, _, _, _, _⟩) (v := .bool false) rfl (by kernel_rfl) (by kernel_rfl) (by kernel_rfl) (fun _ _ _ h => h) (Or.inl ⟨by kernel_rfl, fun w hS => by go_simp⟩) hH4 ?_
               simp only [Act.put, List.setIfInBounds_toArray, List.set_cons_zero, List.set_cons_succ]
               refine wpAnyH_re 21 #[true, true, true, true, true, true, true, true, true, true, true, true, true, true, true, true, true, true, true, true, true, true, true, true, true, false, false, false, false, false, false, false, false, false, false, false, false, false, false, false, false, false, false, false, false, false] (by kernel_rfl) (by kernel_rfl) ?_
               refine wpAnyH_take (i := 25) (oi := ⟨some 111, _, _, _, _, _⟩) (v := .bool false) rfl (by kernel_rfl) (by kernel_rfl) (by kernel_rfl) (fun _ _ _ h => h) (Or.inl ⟨by kernel_rfl, fun w hS => by go_simp⟩) hH4 ?_
               simp only [Act.put, List.setIfInBounds_toArray, List.set_cons_zero, List.set_cons_succ]
               refine wpAnyH_re 20 #[true, true, true, true, true, true, true, true, true, true, true, true, true, true, true, true, true, true, true, true, true, true, true, true, true, true, false, false, false, false, false, false, false, false, false, false, false, false, false, false, false, false, false, false, false, false] (by kernel_rfl) (by kernel_rfl) ?_
               refine wpAnyH_take (i := 26) (oi := ⟨some 112, _, _, _, _, _⟩) (v := .bool false) rfl (by kernel_rfl) (by kernel_rfl) (by kernel_rfl) (fun _ _ _ h => h) (Or.inl ⟨by kernel_rfl, fun w hS => by go_simp⟩) hH4 ?_
               simp only [Act.put, List.setIfInBounds_toArray, List.set_cons_zero, List.set_cons_succ]
               refine wpAnyH_re 19 #[true, true, true, true, true, true, true, true, true, true, true, true, true, true, true, true, true, true, true, true, true, true, true, true, true, true, true, false, false, false, false, false, false, false, false, false, false, false, false, false, false, false, false, false, false, false] (by kernel_rfl) (by kernel_rfl) ?_
               refine wpAnyH_take (i := 27) (oi := ⟨some 113, _, _, _, _, _⟩) (v := .pointer (some ⟨gx, 3, none⟩)) rfl (by kernel_rfl) (by kernel_rfl) (by kernel_rfl) (fun _ _ _ h => h) (Or.inl ⟨by kernel_rfl, fun w hS => by go_simp⟩) hH4 ?_
               simp only [Act.put, List.setIfInBounds_toArray, List.set_cons_zero, List.set_cons_succ]
               refine wpAnyH_re 18 #[true, true, true, true, true, true, true, true, true, true, true, true, true, true, true, true, true, true, true, true, true, true, true, true, true, true, true, true, false, false, false, false, false, false, false, false, false, false, false, false, false, false, false, false, false, false] (by kernel_rfl) (by kernel_rfl) ?_
               refine wpAnyH_take (i := 28) (oi := ⟨some 114, _, _, _, _, _⟩) (v := .slice oa m2 oc) rfl (by kernel_rfl) (by kernel_rfl) (by kernel_rfl) (fun _ _ _ h => h) (Or.inl ⟨by kernel_rfl, fun w hS => by obtain ⟨⟨u0, u1, u2⟩, u3, u4, u5, u6, u7⟩ := hS; go_simp⟩) hH4 ?_
               simp only [Act.put, List.setIfInBounds_toArray, List.set_cons_zero, List.set_cons_succ]
               refine wpAnyH_re 17 #[true, true, true, true, true, true, true, true, true, true, true, true, true, true, true, true, true, true, true, true, true, true, true, true, true, true, true, true, true, false, false, false, false, false, false, false, false, false, false, false, false, false, false, false, false, false] (by kernel_rfl) (by kernel_rfl) ?_
               refine wpAnyH_take (i := 30) (oi := ⟨some 116, _, _, _, _, _⟩) (v := .pointer (some ⟨gl, 1, none⟩)) rfl (by kernel_rfl) (by kernel_rfl) (by kernel_rfl) (fun _ _ _ h => h) (Or.inl ⟨by kernel_rfl, fun w hS => by go_simp⟩) hH4 ?_
               simp only [Act.put, List.setIfInBounds_toArray, List.set_cons_zero, List.set_cons_succ]
               refine wpAnyH_re 16 #[true, true, true, true, true, true, true, true, true, true, true, true, true, true, true, true, true, true, true, true, true, true, true, true, true, true, true, true, true, false, true, false, false, false, false, false, false, false, false, false, false, false, false, false, false, false] (by kernel_rfl) (by kernel_rfl) ?_
               refine wpAnyH_take (i := 31) (oi := ⟨some 117, _, _, _, _, _⟩) (v := .slice a2 n2 c2) rfl (by kernel_rfl) (by kernel_rfl) (by kernel_rfl) (fun _ _ _ h => h) (Or.inl ⟨by kernel_rfl, fun w hS => by obtain ⟨⟨u0, u1, u2⟩, u3, u4, u5, u6, u7⟩ := hS; go_simp⟩) hH4 ?_
               simp only [Act.put, List.setIfInBounds_toArray, List.set_cons_zero, List.set_cons_succ]
               refine wpAnyH_re 15 #[true, true, true, true, true, true, true, true, true, true, true, true, true, true, true, true, true, true, true, true, true, true, true, true, true, true, true, true, true, false, true, true, false, false, false, false, false, false, false, false, false, false, false, false, false, false] (by kernel_rfl) (by kernel_rfl) ?_
               refine wpAnyH_take (i := 32) (oi := ⟨some 118, _, _, _, _, _⟩) (v := .int .i64 (n2 : Int)) rfl (by kernel_rfl) (by kernel_rfl) (by kernel_rfl) (fun _ _ _ h => h) (Or.inl ⟨by kernel_rfl, fun w hS => by go_simp⟩) hH4 ?_
               simp only [Act.put, List.setIfInBounds_toArray, List.set_cons_zero, List.set_cons_succ]
               refine wpAnyH_re 14 #[true, true, true, true, true, true, true, true, true, true, true, true, true, true, true, true, true, true, true, true, true, true, true, true, true, true, true, true, true, false, true, true, true, false, false, false, false, false, false, false, false, false, false, false, false, false] (by kernel_rfl) (by kernel_rfl) ?_
               refine wpAnyH_ready (rs := [29]) (by kernel_rfl) (by simp) (AllReadyH.cons (o := ⟨some 115, _, _, _, _, _⟩) rfl (fun K hK => ?_) AllReadyH.nil)
               go_simp
               refine (HP3.out _ HB1.out).mono ?_
               rintro e w38 ⟨p3, q3, r3, rfl, hq3, hS3, hb38⟩
               have HB38 := Lib.hid hb38
               have HSR3 := Lib.hid hS3.row
               have HQL3 := Lib.hid hq3
               clear hb38 hS3 hq3
               refine hK.out _ _ (HS9.out _ HB38.out) (fun hH3a => ?_)
               clear hK K hH4
               refine wpAnyH_re 13 #[true, true, true, true, true, true, true, true, true, true, true, true, true, true, true, true, true, true, true, true, true, true, true, true, true, true, true, true, true, true, true, true, true, false, false, false, false, false, false, false, false, false, false, false, false, false] (by kernel_rfl) (by kernel_rfl) ?_
               refine wpAnyH_ready (rs := [33]) (by kernel_rfl) (by simp) (AllReadyH.cons (o := ⟨some 119, _, _, _, _, _⟩) rfl (fun K hK => ?_) AllReadyH.nil)
               go_simp
               refine (HQ3.out _ _ _ _ HQL3.out HSR3.out).mono ?_
               rintro e w9 ⟨rfl, rfl⟩
               refine hK.out _ _ (HS9.out _ HB38.out) (fun hH3b => ?_)
               clear hK K hH3a
               cases b3 with
               | false =>
                 as_aux_lemma =>
                  have HF := Lib.hid (may_no5 (L := L) (by rw [N1.out, N2.out, N3.out]; exact all_bad HY.out (rr_4 B3.out)))
                  refine wpAnyH_re 12 #[true, true, true, true, true, true, true, true, true, true, true, true, true, true, true, true, true, true, true, true, true, true, true, true, true, true, true, true, true, true, true, true, true, true, false, false, false, false, false, false, false, false, false, false, false, false] (by kernel_rfl) (by kernel_rfl) ?_
                  refine wpAnyH_take (i := 34) (oi := ⟨some 120, _, _, _, _, _⟩) (v := .bool true) rfl (by kernel_rfl) (by kernel_rfl) (by kernel_rfl) (fun _ _ _ h => h) (Or.inl ⟨by kernel_rfl, fun w hS => by go_simp⟩) hH3b ?_
                  simp only [Act.put, List.setIfInBounds_toArray, List.set_cons_zero, List.set_cons_succ]
                  refine wpAnyH_re 11 #[true, true, true, true, true, true, true, true, true, true, true, true, true, true, true, true, true, true, true, true, true, true, true, true, true, true, true, true, true, true, true, true, true, true, true, false, false, false, false, false, false, false, false, false, false, false] (by kernel_rfl) (by kernel_rfl) ?_
                  refine wpAnyH_take (i := 35) (oi := ⟨some 121, _, _, _, _, _⟩) (v := .bool true) rfl (by kernel_rfl) (by kernel_rfl) (by kernel_rfl) (fun _ _ _ h => h) (Or.inl ⟨by kernel_rfl, fun w hS => by go_simp⟩) hH3b ?_
                  simp only [Act.put, List.setIfInBounds_toArray, List.set_cons_zero, List.set_cons_succ]
                  refine wpAnyH_re 10 #[true, true, true, true, true, true, true, true, true, true, true, true, true, true, true, true, true, true, true, true, true, true, true, true, true, true, true, true, true, true, true, true, true, true, true, true, false, false, false, false, false, false, false, false, false, false] (by kernel_rfl) (by kernel_rfl) ?_
                  refine wpAnyH_take (i := 36) (oi := ⟨some 122, _, _, _, _, _⟩) (v := .bool true) rfl (by kernel_rfl) (by kernel_rfl) (by kernel_rfl) (fun _ _ _ h => h) (Or.inl ⟨by kernel_rfl, fun w hS => by go_simp⟩) hH3b ?_
                  simp only [Act.put, List.setIfInBounds_toArray, List.set_cons_zero, List.set_cons_succ]
                  refine wpAnyH_re 9 #[true, true, true, true, true, true, true, true, true, true, true, true, true, true, true, true, true, true, true, true, true, true, true, true, true, true, true, true, true, true, true, true, true, true, true, true, true, false, false, false, false, false, false, false, false, false] (by kernel_rfl) (by kernel_rfl) ?_
                  refine wpAnyH_take (i := 37) (oi := ⟨some 123, _, _, _, _, _⟩) (v := undef) rfl (by kernel_rfl) (by kernel_rfl) (by kernel_rfl) (fun _ _ _ h => h) (Or.inr ⟨by kernel_rfl, rfl⟩) hH3b ?_
                  simp only [Act.put, List.setIfInBounds_toArray, List.set_cons_zero, List.set_cons_succ]
                  refine wpAnyH_re 8 #[true, true, true, true, true, true, true, true, true, true, true, true, true, true, true, true, true, true, true, true, true, true, true, true, true, true, true, true, true, true, true, true, true, true, true, true, true, true, false, false, false, false, false, false, false, false] (by kernel_rfl) (by kernel_rfl) ?_
                  refine wpAnyH_take (i := 38) (oi := ⟨some 124, _, _, _, _, _⟩) (v := undef) rfl (by kernel_rfl) (by kernel_rfl) (by kernel_rfl) (fun _ _ _ h => h) (Or.inr ⟨by kernel_rfl, rfl⟩) hH3b ?_
                  simp only [Act.put, List.setIfInBounds_toArray, List.set_cons_zero, List.set_cons_succ]
                  refine wpAnyH_re 7 #[true, true, true, true, true, true, true, true, true, true, true, true, true, true, true, true, true, true, true, true, true, true, true, true, true, true, true, true, true, true, true, true, true, true, true, true, true, true, true, false, false, false, false, false, false, false] (by kernel_rfl) (by kernel_rfl) ?_
                  refine wpAnyH_take (i := 39) (oi := ⟨some 125, _, _, _, _, _⟩) (v := undef) rfl (by kernel_rfl) (by kernel_rfl) (by kernel_rfl) (fun _ _ _ h => h) (Or.inr ⟨by kernel_rfl, rfl⟩) hH3b ?_
                  simp only [Act.put, List.setIfInBounds_toArray, List.set_cons_zero, List.set_cons_succ]
                  refine wpAnyH_re 6 #[true, true, true, true, true, true, true, true, true, true, true, true, true, true, true, true, true, true, true, true, true, true, true, true, true, true, true, true, true, true, true, true, true, true, true, true, true, true, true, true, false, false, false, false, false, false] (by kernel_rfl) (by kernel_rfl) ?_
                  refine wpAnyH_take (i := 40) (oi := ⟨some 126, _, _, _, _, _⟩) (v := undef) rfl (by kernel_rfl) (by kernel_rfl) (by kernel_rfl) (fun _ _ _ h => h) (Or.inr ⟨by kernel_rfl, rfl⟩) hH3b ?_
                  simp only [Act.put, List.setIfInBounds_toArray, List.set_cons_zero, List.set_cons_succ]
                  refine wpAnyH_re 5 #[true, true, true, true, true, true, true, true, true, true, true, true, true, true, true, true, true, true, true, true, true, true, true, true, true, true, true, true, true, true, true, true, true, true, true, true, true, true, true, true, true, false, false, false, false, false] (by kernel_rfl) (by kernel_rfl) ?_
                  refine wpAnyH_take (i := 41) (oi := ⟨some 127, _, _, _, _, _⟩) (v := undef) rfl (by kernel_rfl) (by kernel_rfl) (by kernel_rfl) (fun _ _ _ h => h) (Or.inr ⟨by kernel_rfl, rfl⟩) hH3b ?_
                  simp only [Act.put, List.setIfInBounds_toArray, List.set_cons_zero, List.set_cons_succ]
                  refine wpAnyH_re 4 #[true, true, true, true, true, true, true, true, true, true, true, true, true, true, true, true, true, true, true, true, true, true, true, true, true, true, true, true, true, true, true, true, true, true, true, true, true, true, true, true, true, true, false, false, false, false] (by kernel_rfl) (by kernel_rfl) ?_
                  refine wpAnyH_take (i := 42) (oi := ⟨some 128, _, _, _, _, _⟩) (v := undef) rfl (by kernel_rfl) (by kernel_rfl) (by kernel_rfl) (fun _ _ _ h => h) (Or.inr ⟨by kernel_rfl, rfl⟩) hH3b ?_
                  simp only [Act.put, List.setIfInBounds_toArray, List.set_cons_zero, List.set_cons_succ]
                  refine wpAnyH_re 3 #[true, true, true, true, true, true, true, true, true, true, true, true, true, true, true, true, true, true, true, true, true, true, true, true, true, true, true, true, true, true, true, true, true, true, true, true, true, true, true, true, true, true, true, false, false, false] (by kernel_rfl) (by kernel_rfl) ?_
                  refine wpAnyH_take (i := 43) (oi := ⟨some 129, _, _, _, _, _⟩) (v := undef) rfl (by kernel_rfl) (by kernel_rfl) (by kernel_rfl) (fun _ _ _ h => h) (Or.inr ⟨by kernel_rfl, rfl⟩) hH3b ?_
                  simp only [Act.put, List.setIfInBounds_toArray, List.set_cons_zero, List.set_cons_succ]
                  refine wpAnyH_re 2 #[true, true, true, true, true, true, true, true, true, true, true, true, true, true, true, true, true, true, true, true, true, true, true, true, true, true, true, true, true, true, true, true, true, true, true, true, true, true, true, true, true, true, true, true, false, false] (by kernel_rfl) (by kernel_rfl) ?_
                  refine wpAnyH_take (i := 44) (oi := ⟨some 130, _, _, _, _, _⟩) (v := undef) rfl (by kernel_rfl) (by kernel_rfl) (by kernel_rfl) (fun _ _ _ h => h) (Or.inr ⟨by kernel_rfl, rfl⟩) hH3b ?_
                  simp only [Act.put, List.setIfInBounds_toArray, List.set_cons_zero, List.set_cons_succ]
                  refine wpAnyH_re 1 #[true, true, true, true, true, true, true, true, true, true, true, true, true, true, true, true, true, true, true, true, true, true, true, true, true, true, true, true, true, true, true, true, true, true, true, true, true, true, true, true, true, true, true, true, true, false] (by kernel_rfl) (by kernel_rfl) ?_
                  refine wpAnyH_take (i := 45) (oi := ⟨some 131, _, _, _, _, _⟩) (v := .bool true) rfl (by kernel_rfl) (by kernel_rfl) (by kernel_rfl) (fun _ _ _ h => h) (Or.inl ⟨by kernel_rfl, fun w hS => by go_simp⟩) hH3b ?_
                  simp only [Act.put, List.setIfInBounds_toArray, List.set_cons_zero, List.set_cons_succ]
                  refine wpAnyH_done (by kernel_rfl) ?_ _
                  have HM7 := Lib.hid (HM4.out.step HB38.out)
                  clear hH3b
                  go_wp2_with fail
                  go_ret
                  exact ⟨by rw [HF.out]; rfl, HM7.out.below⟩
               | true =>
                 refine wpAnyH_re 12 #[true, true, true, true, true, true, true, true, true, true, true, true, true, true, true, true, true, true, true, true, true, true, true, true, true, true, true, true, true, true, true, true, true, true, false, false, false, false, false, false, false, false, false, false, false, false] (by kernel_rfl) (by kernel_rfl) ?_
                 refine wpAnyH_take (i := 34) (oi := ⟨some 120, _, _, _, _, _⟩) (v := .bool false) rfl (by kernel_rfl) (by kernel_rfl) (by kernel_rfl) (fun _ _ _ h => h) (Or.inl ⟨by kernel_rfl, fun w hS => by go_simp⟩) hH3b ?_
                 simp only [Act.put, List.setIfInBounds_toArray, List.set_cons_zero, List.set_cons_succ]
                 refine wpAnyH_re 11 #[true, true, true, true, true, true, true, true, true, true, true, true, true, true, true, true, true, true, true, true, true, true, true, true, true, true, true, true, true, true, true, true, true, true, true, false, false, false, false, false, false, false, false, false, false, false] (by kernel_rfl) (by kernel_rfl) ?_
                 refine wpAnyH_take (i := 35) (oi := ⟨some 121, _, _, _, _, _⟩) (v := .bool false) rfl (by kernel_rfl) (by kernel_rfl) (by kernel_rfl) (fun _ _ _ h => h) (Or.inl ⟨by kernel_rfl, fun w hS => by go_simp⟩) hH3b ?_
                 simp only [Act.put, List.setIfInBounds_toArray, List.set_cons_zero, List.set_cons_succ]
                 refine wpAnyH_re 10 #[true, true, true, true, true, true, true, true, true, true, true, true, true, true, true, true, true, true, true, true, true, true, true, true, true, true, true, true, true, true, true, true, true, true, true, true, false, false, false, false, false, false, false, false, false, false] (by kernel_rfl) (by kernel_rfl) ?_
                 refine wpAnyH_take (i := 36) (oi := ⟨some 122, _, _, _, _, _⟩) (v := .bool false) rfl (by kernel_rfl) (by kernel_rfl) (by kernel_rfl) (fun _ _ _ h => h) (Or.inl ⟨by kernel_rfl, fun w hS => by go_simp⟩) hH3b ?_
                 simp only [Act.put, List.setIfInBounds_toArray, List.set_cons_zero, List.set_cons_succ]
                 refine wpAnyH_re 9 #[true, true, true, true, true, true, true, true, true, true, true, true, true, true, true, true, true, true, true, true, true, true, true, true, true, true, true, true, true, true, true, true, true, true, true, true, true, false, false, false, false, false, false, false, false, false] (by kernel_rfl) (by kernel_rfl) ?_
                 refine wpAnyH_take (i := 37) (oi := ⟨some 123, _, _, _, _, _⟩) (v := .pointer (some ⟨gx, 5, none⟩)) rfl (by kernel_rfl) (by kernel_rfl) (by kernel_rfl) (fun _ _ _ h => h) (Or.inl ⟨by kernel_rfl, fun w hS => by go_simp⟩) hH3b ?_
                 simp only [Act.put, List.setIfInBounds_toArray, List.set_cons_zero, List.set_cons_succ]
                 refine wpAnyH_re 8 #[true, true, true, true, true, true, true, true, true, true, true, true, true, true, true, true, true, true, true, true, true, true, true, true, true, true, true, true, true, true, true, true, true, true, true, true, true, true, false, false, false, false, false, false, false, false] (by kernel_rfl) (by kernel_rfl) ?_
                 refine wpAnyH_take (i := 38) (oi := ⟨some 124, _, _, _, _, _⟩) (v := .slice fa m4 fc) rfl (by kernel_rfl) (by kernel_rfl) (by kernel_rfl) (fun _ _ _ h => h) (Or.inl ⟨by kernel_rfl, fun w hS => by obtain ⟨⟨u0, u1, u2⟩, u3, u4, u5, u6, u7⟩ := hS; go_simp⟩) hH3b ?_
                 simp only [Act.put, List.setIfInBounds_toArray, List.set_cons_zero, List.set_cons_succ]
                 refine wpAnyH_re 7 #[true, true, true, true, true, true, true, true, true, true, true, true, true, true, true, true, true, true, true, true, true, true, true, true, true, true, true, true, true, true, true, true, true, true, true, true, true, true, true, false, false, false, false, false, false, false] (by kernel_rfl) (by kernel_rfl) ?_
                 refine wpAnyH_take (i := 40) (oi := ⟨some 126, _, _, _, _, _⟩) (v := .pointer (some ⟨gl, 1, none⟩)) rfl (by kernel_rfl) (by kernel_rfl) (by kernel_rfl) (fun _ _ _ h => h) (Or.inl ⟨by kernel_rfl, fun w hS => by go_simp⟩) hH3b ?_
                 simp only [Act.put, List.setIfInBounds_toArray, List.set_cons_zero, List.set_cons_succ]
                 refine wpAnyH_re 6 #[true, true, true, true, true, true, true, true, true, true, true, true, true, true, true, true, true, true, true, true, true, true, true, true, true, true, true, true, true, true, true, true, true, true, true, true, true, true, true, false, true, false, false, false, false, false] (by kernel_rfl) (by kernel_rfl) ?_
                 refine wpAnyH_take (i := 41) (oi := ⟨some 127, _, _, _, _, _⟩) (v := .slice a2 n2 c2) rfl (by kernel_rfl) (by kernel_rfl) (by kernel_rfl) (fun _ _ _ h => h) (Or.inl ⟨by kernel_rfl, fun w hS => by obtain ⟨⟨u0, u1, u2⟩, u3, u4, u5, u6, u7⟩ := hS; go_simp⟩) hH3b ?_
                 simp only [Act.put, List.setIfInBounds_toArray, List.set_cons_zero, List.set_cons_succ]
                 refine wpAnyH_re 5 #[true, true, true, true, true, true, true, true, true, true, true, true, true, true, true, true, true, true, true, true, true, true, true, true, true, true, true, true, true, true, true, true, true, true, true, true, true, true, true, false, true, true, false, false, false, false] (by kernel_rfl) (by kernel_rfl) ?_
                 refine wpAnyH_take (i := 42) (oi := ⟨some 128, _, _, _, _, _⟩) (v := .int .i64 (n2 : Int)) rfl (by kernel_rfl) (by kernel_rfl) (by kernel_rfl) (fun _ _ _ h => h) (Or.inl ⟨by kernel_rfl, fun w hS => by go_simp⟩) hH3b ?_
                 simp only [Act.put, List.setIfInBounds_toArray, List.set_cons_zero, List.set_cons_succ]
                 refine wpAnyH_re 4 #[true, true, true, true, true, true, true, true, true, true, true, true, true, true, true, true, true, true, true, true, true, true, true, true, true, true, true, true, true, true, true, true, true, true, true, true, true, true, true, false, true, true, true, false, false, false] (by kernel_rfl) (by kernel_rfl) ?_
                 refine wpAnyH_ready (rs := [39]) (by kernel_rfl) (by simp) (AllReadyH.cons (o := ⟨some 125, _, _, _, _, _⟩) rfl (fun K hK => ?_) AllReadyH.nil)
                 go_simp
                 refine (HP5.out _ HB38.out).mono ?_
                 rintro e w48 ⟨p4, q4, r4, rfl, hq4, hS4, hb48⟩
                 have HB48 := Lib.hid hb48
                 have HSR4 := Lib.hid hS4.row
                 have HQL4 := Lib.hid hq4
                 clear hb48 hS4 hq4
                 refine hK.out _ _ (HS9.out _ HB48.out) (fun hH4a => ?_)
                 clear hK K hH3b
                 refine wpAnyH_re 3 #[true, true, true, true, true, true, true, true, true, true, true, true, true, true, true, true, true, true, true, true, true, true, true, true, true, true, true, true, true, true, true, true, true, true, true, true, true, true, true, true, true, true, true, false, false, false] (by kernel_rfl) (by kernel_rfl) ?_
                 refine wpAnyH_ready (rs := [43]) (by kernel_rfl) (by simp) (AllReadyH.cons (o := ⟨some 129, _, _, _, _, _⟩) rfl (fun K hK => ?_) AllReadyH.nil)
                 go_simp
                 refine (HQ4.out _ _ _ _ HQL4.out HSR4.out).mono ?_
                 rintro e w9 ⟨rfl, rfl⟩
                 refine hK.out _ _ (HS9.out _ HB48.out) (fun hH4b => ?_)
                 clear hK K hH4a
                 cases b4 with
                 | false =>
                   as_aux_lemma =>
                    have HF := Lib.hid (may_no5 (L := L) (by rw [N1.out, N2.out, N3.out]; exact all_bad HY.out (rr_5 B4.out)))
                    refine wpAnyH_re 2 #[true, true, true, true, true, true, true, true, true, true, true, true, true, true, true, true, true, true, true, true, true, true, true, true, true, true, true, true, true, true, true, true, true, true, true, true, true, true, true, true, true, true, true, true, false, false] (by kernel_rfl) (by kernel_rfl) ?_
                    refine wpAnyH_take (i := 44) (oi := ⟨some 130, _, _, _, _, _⟩) (v := .bool true) rfl (by kernel_rfl) (by kernel_rfl) (by kernel_rfl) (fun _ _ _ h => h) (Or.inl ⟨by kernel_rfl, fun w hS => by go_simp⟩) hH4b ?_
                    simp only [Act.put, List.setIfInBounds_toArray, List.set_cons_zero, List.set_cons_succ]
                    refine wpAnyH_re 1 #[true, true, true, true, true, true, true, true, true, true, true, true, true, true, true, true, true, true, true, true, true, true, true, true, true, true, true, true, true, true, true, true, true, true, true, true, true, true, true, true, true, true, true, true, true, false] (by kernel_rfl) (by kernel_rfl) ?_
                    refine wpAnyH_take (i := 45) (oi := ⟨some 131, _, _, _, _, _⟩) (v := .bool true) rfl (by kernel_rfl) (by kernel_rfl) (by kernel_rfl) (fun _ _ _ h => h) (Or.inl ⟨by kernel_rfl, fun w hS => by go_simp⟩) hH4b ?_
                    simp only [Act.put, List.setIfInBounds_toArray, List.set_cons_zero, List.set_cons_succ]
                    refine wpAnyH_done (by kernel_rfl) ?_ _
                    have HM7 := Lib.hid (HM4.out.step HB48.out)
                    clear hH4b
                    go_wp2_with fail
                    go_ret
                    exact ⟨by rw [HF.out]; rfl, HM7.out.below⟩
                 | true =>
                   refine wpAnyH_re 2 #[true, true, true, true, true, true, true, true, true, true, true, true, true, true, true, true, true, true, true, true, true, true, true, true, true, true, true, true, true, true, true, true, true, true, true, true, true, true, true, true, true, true, true, true, false, false] (by kernel_rfl) (by kernel_rfl) ?_
                   refine wpAnyH_take (i := 44) (oi := ⟨some 130, _, _, _, _, _⟩) (v := .bool false) rfl (by kernel_rfl) (by kernel_rfl) (by kernel_rfl) (fun _ _ _ h => h) (Or.inl ⟨by kernel_rfl, fun w hS => by go_simp⟩) hH4b ?_
                   simp only [Act.put, List.setIfInBounds_toArray, List.set_cons_zero, List.set_cons_succ]
                   refine wpAnyH_re 1 #[true, true, true, true, true, true, true, true, true, true, true, true, true, true, true, true, true, true, true, true, true, true, true, true, true, true, true, true, true, true, true, true, true, true, true, true, true, true, true, true, true, true, true, true, true, false] (by kernel_rfl) (by kernel_rfl) ?_
                   refine wpAnyH_take (i := 45) (oi := ⟨some 131, _, _, _, _, _⟩) (v := .bool false) rfl (by kernel_rfl) (by kernel_rfl) (by kernel_rfl) (fun _ _ _ h => h) (Or.inl ⟨by kernel_rfl, fun w hS => by go_simp⟩) hH4b ?_
                   simp only [Act.put, List.setIfInBounds_toArray, List.set_cons_zero, List.set_cons_succ]
                   refine wpAnyH_done (by kernel_rfl) ?_ _
                   have HM7 := Lib.hid (HM4.out.step HB48.out)
                   clear hH4b
                   have HX := Lib.hid (all_take HY.out (rr_6 B0.out B1.out B2.out B3.out B4.out) HST.out)
                   go_wp2_with fail
                   go_roundg (n4 - (k + 1))
                   case rel => exact ⟨k + 1, by have := HK.out; omega, by go_num, HX.out, HM7.out⟩
                   case measure => have := HK.out; omega
        ·have hkn : n4 = k := by omega
         subst hkn
         have HF : Hid (mayS L = true) := Lib.hid (may_yes HS.out HNM.out (by rw [N1.out]; exact HB2.out) (by rw [N1.out]; exact HB3.out) (by rw [N1.out, N2.out, N3.out]; have := HST.out; rwa [List.take_of_length_le (by rw [N4.out]; exact Nat.le_refl _)] at this))
         go_wp2_with fail
         go_ret
         exact ⟨by rw [HF.out]; rfl, HM.out.below⟩
end Go.Proofs.Ytjienmjpfklgeaa
namespace Go.Proofs.Ytjienmjpfklgeaa
open Go.RowKit
set_option maxRecDepth 100000
theorem cnt_lt {l : List Int} {s : Int} {c : Nat} {D : Bool} (hc : cntI l s = c) (hD : hasI l s = D) : (D = true ∧ (0 : Int) < c ∧ 0 < c) ∨ (D = false ∧ ¬ (0 : Int) < c ∧ ¬ 0 < c) := by
 cases D with
 | true => have := cnt_yes hD; exact .inl ⟨rfl, by omega, by omega⟩
 | false => have := cnt_no hD; exact .inr ⟨rfl, by omega, by omega⟩
attribute [local irreducible] hasI hasP dupI dupN okPt okPts secOf formedS Sl.v cntI

set_option maxRecDepth 100000 in
set_option maxHeartbeats 3000000 in
theorem rformed_is (L : Lay) (r : Rt) (w : World) (hL : LayAt w L) (hr : RtAt w r) (hsg : 0 ≤ r.sg) (hsn : r.sg < (L.sg.l.length : Int)) (hl1 : r.pa.l.length + r.ov.l.length ≤ 100000) (hl2 : r.po.l.length + r.fl.l.length ≤ 100000) :
 Calls Try.prog 37 #[.agg #[L.se.v, L.po.v, L.sg.v, L.rt.v], .agg #[.string r.nm, .int .i64 r.sg, r.pa.v, r.po.v, r.ov.v, r.fl.v]] w fun e w' => e = .returned (.bool (formedS L r)) ∧ Below w.heap.size w w' := by
 have HA := Lib.hid hL
 have HTR : Hid (∀ W, Below w.heap.size w W → Calls Try.prog 48 #[.agg #[.string r.nm, .int .i64 r.sg, r.pa.v, r.po.v, r.ov.v, r.fl.v]] W fun e w' => ∃ a n c, e = .returned (.slice a n c) ∧ n = r.pa.l.length + r.ov.l.length ∧ SlAt 1 intC w' ⟨a, c, r.pa.l ++ r.ov.l⟩ ∧ Below W.heap.size W w') := Lib.hid (fun W hb => rtrack_is r W (hr.below hb) hl1)
 have HND : Hid (∀ W, Below w.heap.size w W → Calls Try.prog 45 #[.agg #[.string r.nm, .int .i64 r.sg, r.pa.v, r.po.v, r.ov.v, r.fl.v]] W fun e w' => ∃ a n c, e = .returned (.slice a n c) ∧ n = r.po.l.length + r.fl.l.length ∧ SlAt 2 ndC w' ⟨a, c, r.po.l ++ r.fl.l⟩ ∧ Below W.heap.size W w') := Lib.hid (fun W hb => rneeds_is r W (hr.below hb) hl2)
 obtain ⟨n1, hn1⟩ : ∃ n, L.se.l.length = n := ⟨_, rfl⟩
 obtain ⟨n2, hn2⟩ : ∃ n, L.po.l.length = n := ⟨_, rfl⟩
 obtain ⟨n3, hn3⟩ : ∃ n, L.sg.l.length = n := ⟨_, rfl⟩
 obtain ⟨n4, hn4⟩ : ∃ n, L.rt.l.length = n := ⟨_, rfl⟩
 obtain ⟨m1, hm1⟩ : ∃ n, r.pa.l.length = n := ⟨_, rfl⟩
 obtain ⟨m2, hm2⟩ : ∃ n, r.po.l.length = n := ⟨_, rfl⟩
 obtain ⟨m3, hm3⟩ : ∃ n, r.ov.l.length = n := ⟨_, rfl⟩
 obtain ⟨m4, hm4⟩ : ∃ n, r.fl.l.length = n := ⟨_, rfl⟩
 have v1 := slv hn1
 have v2 := slv hn2
 have v3 := slv hn3
 have v4 := slv hn4
 have u1 := slv hm1
 have u2 := slv hm2
 have u3 := slv hm3
 have u4 := slv hm4
 have R2 := Lib.hid hL.po.row
 have R3 := Lib.hid hL.sg.row
 have M2 := Lib.hid hL.po.lenM
 have Q2 := Lib.hid hr.po.row
 have Q4 := Lib.hid hr.fl.row
 obtain ⟨T, hT⟩ : ∃ T, r.pa.l ++ r.ov.l = T := ⟨_, rfl⟩
 obtain ⟨N, hN⟩ : ∃ N, r.po.l ++ r.fl.l = N := ⟨_, rfl⟩
 obtain ⟨nm, hnm⟩ : ∃ x, r.nm = x := ⟨_, rfl⟩
 obtain ⟨ks, hks⟩ : ∃ k : Nat, r.sg = (k : Int) := ⟨r.sg.toNat, by omega⟩
 obtain ⟨a1, ha1⟩ : ∃ a, L.se.a = a := ⟨_, rfl⟩
 obtain ⟨c1, hc1⟩ : ∃ a, L.se.c = a := ⟨_, rfl⟩
 rw [ha1, hc1] at v1
 obtain ⟨a2, ha2⟩ : ∃ a, L.po.a = a := ⟨_, rfl⟩
 obtain ⟨c2, hc2⟩ : ∃ a, L.po.c = a := ⟨_, rfl⟩
 rw [ha2, hc2] at v2
 obtain ⟨a3, ha3⟩ : ∃ a, L.sg.a = a := ⟨_, rfl⟩
 obtain ⟨c3, hc3⟩ : ∃ a, L.sg.c = a := ⟨_, rfl⟩
 rw [ha3, hc3] at v3
 obtain ⟨a4, ha4⟩ : ∃ a, L.rt.a = a := ⟨_, rfl⟩
 obtain ⟨c4, hc4⟩ : ∃ a, L.rt.c = a := ⟨_, rfl⟩
 rw [ha4, hc4] at v4
 obtain ⟨b1, hb1⟩ : ∃ a, r.pa.a = a := ⟨_, rfl⟩
 obtain ⟨e1, he1⟩ : ∃ a, r.pa.c = a := ⟨_, rfl⟩
 rw [hb1, he1] at u1
 obtain ⟨b2, hb2⟩ : ∃ a, r.po.a = a := ⟨_, rfl⟩
 obtain ⟨e2, he2⟩ : ∃ a, r.po.c = a := ⟨_, rfl⟩
 rw [hb2, he2] at u2
 obtain ⟨b3, hb3⟩ : ∃ a, r.ov.a = a := ⟨_, rfl⟩
 obtain ⟨e3, he3⟩ : ∃ a, r.ov.c = a := ⟨_, rfl⟩
 rw [hb3, he3] at u3
 obtain ⟨b4, hb4⟩ : ∃ a, r.fl.a = a := ⟨_, rfl⟩
 obtain ⟨e4, he4⟩ : ∃ a, r.fl.c = a := ⟨_, rfl⟩
 rw [hb4, he4] at u4
 rw [ha2] at R2
 rw [ha3] at R3
 rw [hb2] at Q2
 rw [hb4] at Q4
 rw [hn3, hks] at hsn
 rw [hnm, hks, u1, u2, u3, u4] at HTR HND
 rw [hT, hm1, hm3] at HTR
 rw [hN, hm2, hm4] at HND
 rw [hnm, hks, u1, u2, u3, u4, v1, v2, v3, v4]
 have HV := Lib.hid (And.intro v1 (And.intro v2 (And.intro v3 v4)))
 have HU := Lib.hid (And.intro hnm (And.intro hks (And.intro u1 (And.intro u2 (And.intro u3 u4)))))
 have HNN := Lib.hid (And.intro hn2 hn3)
 have HMM := Lib.hid (And.intro hm1 (And.intro hm2 (And.intro hm3 hm4)))
 have HTN := Lib.hid (And.intro hT hN)
 have HT : Hid (T.length = m1 + m3) := Lib.hid (by rw [← hT, List.length_append, hm1, hm3])
 have HN : Hid (N.length = m2 + m4) := Lib.hid (by rw [← hN, List.length_append, hm2, hm4])
 rw [hm1, hm3] at hl1
 rw [hm2, hm4] at hl2
 have HL1 := Lib.hid hl1
 have HL2 := Lib.hid hl2
 have s1 : (0 : Int) ≤ ks := by omega
 have HSN := Lib.hid (show ks < n3 by omega)
 have s2 : (ks : Int) < n3 := hsn
 clear hn1 hn2 hn3 hn4 hm1 hm2 hm3 hm4 ha1 ha2 ha3 ha4 hc1 hc2 hc3 hc4 hb1 hb2 hb3 hb4 he1 he2 he3 he4 v1 v2 v3 v4 u1 u2 u3 u4 hL hr hnm hks hT hN hsg hsn hl1 hl2
 obtain ⟨gl, hgl⟩ : ∃ g, g = w.heap.size := ⟨_, rfl⟩
 obtain ⟨gr, hgr⟩ : ∃ g, g = gl + 1 := ⟨_, rfl⟩
 have HGL := Lib.hid hgl
 have HGR := Lib.hid hgr
 clear hgl hgr
 go_enter Try.func37, Try.ntmps37
 go_wp2_with fail
 refine (HTR.out _ (below2' w _ _)).mono ?_
 rintro e w1 ⟨ta, tn, tc, rfl, hn, hS, hb⟩
 have HM : FoAt w w1 gl gr L r := by
  obtain ⟨q1, q2⟩ := alloc2' w (.cells #[.slice a1 n1 c1, .slice a2 n2 c2, .slice a3 n3 c3, .slice a4 n4 c4] 27) (.cells #[.string nm, .int .i64 (ks : Int), .slice b1 m1 e1, .slice b2 m2 e2, .slice b3 m3 e3, .slice b4 m4 e4] 44)
  obtain ⟨x1, x2, x3, x4⟩ := HV.out
  obtain ⟨y1, y2, y3, y4, y5, y6⟩ := HU.out
  refine ⟨?_, ?_, below_on (below2' w _ _) hb⟩
  ·rw [HGL.out, x1, x2, x3, x4]; exact blk_keep hb q1
  ·rw [HGR.out, HGL.out, y1, y2, y3, y4, y5, y6]; exact blk_keep hb q2
 rw [← HGL.out, ← HGR.out]
 have HM := Lib.hid HM
 have HS := Lib.hid hS
 obtain rfl := hn
 clear hb hS
 obtain ⟨r0, r1, r2, r3, r4, r5⟩ : w1.cell? ⟨gr, 0, none⟩ = some (.string nm) ∧ w1.cell? ⟨gr, 1, none⟩ = some (.int .i64 (ks : Int)) ∧ w1.cell? ⟨gr, 2, none⟩ = some (.slice b1 m1 e1) ∧ w1.cell? ⟨gr, 3, none⟩ = some (.slice b2 m2 e2) ∧ w1.cell? ⟨gr, 4, none⟩ = some (.slice b3 m3 e3) ∧ w1.cell? ⟨gr, 5, none⟩ = some (.slice b4 m4 e4) := by
  obtain ⟨y1, y2, y3, y4, y5, y6⟩ := HU.out
  rw [← y1, ← y2, ← y3, ← y4, ← y5, ← y6]
  exact ⟨blk_cell HM.out.rt 0 _ rfl, blk_cell HM.out.rt 1 _ rfl, blk_cell HM.out.rt 2 _ rfl, blk_cell HM.out.rt 3 _ rfl, blk_cell HM.out.rt 4 _ rfl, blk_cell HM.out.rt 5 _ rfl⟩
 go_wp2_with fail
 clear r0 r1 r2 r3 r4 r5
 refine (HND.out _ HM.out.below).mono ?_
 rintro e w2 ⟨na, nn, nc, rfl, hn, hS2, hb⟩
 have hM := HM.out.step hb
 have hS := HS.out.below hb
 clear HM HS hb
 have HM := Lib.hid hM
 have HS := Lib.hid hS
 clear hM hS
 have HS2 := Lib.hid hS2
 obtain rfl := hn
 clear hS2
 go_wp2_with fail
 refine (r5points_is na _ nc N w2 HN.out (by have := HL2.out; omega) (by have := HL2.out; omega) HS2.out.row).mono ?_
 rintro e w3 ⟨pa, pn, pc, rfl, hn, hP, hb⟩
 have hM := HM.out.step hb
 have hS := HS.out.below hb
 clear HM HS hb
 have HM := Lib.hid hM
 have HS := Lib.hid hS
 clear hM hS
 have HP := Lib.hid hP
 rw [HN.out] at hn
 obtain rfl := hn
 clear hP HS2
 have HPL : Hid ((N.map (·.1)).length = m2 + m4) := Lib.hid (by rw [List.length_map, HN.out])
 obtain ⟨l1, l2, r1, r2, r3, r5⟩ : w3.cell? ⟨gl, 1, none⟩ = some (.slice a2 n2 c2) ∧ w3.cell? ⟨gl, 2, none⟩ = some (.slice a3 n3 c3) ∧ w3.cell? ⟨gr, 1, none⟩ = some (.int .i64 (ks : Int)) ∧ w3.cell? ⟨gr, 2, none⟩ = some (.slice b1 m1 e1) ∧ w3.cell? ⟨gr, 3, none⟩ = some (.slice b2 m2 e2) ∧ w3.cell? ⟨gr, 5, none⟩ = some (.slice b4 m4 e4) := by
  obtain ⟨x1, x2, x3, x4⟩ := HV.out
  obtain ⟨y1, y2, y3, y4, y5, y6⟩ := HU.out
  rw [← x2, ← x3, ← y2, ← y3, ← y4, ← y6]
  exact ⟨blk_cell HM.out.lay 1 _ rfl, blk_cell HM.out.lay 2 _ rfl, blk_cell HM.out.rt 1 _ rfl, blk_cell HM.out.rt 2 _ rfl, blk_cell HM.out.rt 3 _ rfl, blk_cell HM.out.rt 5 _ rfl⟩
 by_cases h0 : m1 = 0
 ·have HF : Hid (formedS L r = false) := Lib.hid (fs_0 (HMM.out.1.trans h0))
  subst h0
  go_wp2_with fail
  go_ret
  exact ⟨by rw [HF.out]; rfl, HM.out.below⟩
 have h01 : ¬ (m1 : Int) = 0 := by omega
 have h02 : ((m1 : Int) == 0) = false := by simpa using h01
 have H0 := Lib.hid h0
 clear h0
 obtain ⟨y, hy⟩ : ∃ y, L.sg.l[ks]? = some y := ⟨_, List.getElem?_eq_getElem (by rw [HNN.out.2]; exact HSN.out)⟩
 rcases R3.out.below HM.out.below with hnil | ⟨xs, os, rfl, hc⟩
 ·rw [hnil] at hy; simp at hy
 obtain ⟨y0, y1⟩ := y
 have z1 := hc ks _ hy 1 _ rfl
 have hsec := secOf_at hy
 dsimp only at z1 hsec
 rw [← HU.out.2.1] at hsec
 have HSE := Lib.hid hsec
 clear hc hy hsec
 obtain ⟨D, hD⟩ : ∃ D, hasI T y1 = D := ⟨_, rfl⟩
 have HC := Lib.hid (count_is ta (m1 + m3) tc T y1 w3 HT.out (by have := HL1.out; omega) HS.out.row)
 obtain ⟨c, hcc⟩ : ∃ c, cntI T y1 = c := ⟨_, rfl⟩
 rw [hcc] at HC
 have hlt := cnt_lt hcc hD
 have HDD := Lib.hid hD
 clear hcc hD
 have HLT := Lib.hid hlt
 clear hlt
 go_wp2_with fail
 refine HC.out.mono ?_
 rintro e w4 ⟨rfl, rfl⟩
 clear HC z1
 clear l1 l2 r1 r2 r3 r5
 rcases HLT.out with ⟨rfl, c1, c1n⟩ | ⟨rfl, c1, c1n⟩
 ·have HF : Hid (formedS L r = false) := Lib.hid (fs_2 (by rw [HTN.out.1, HSE.out]; exact HDD.out))
  clear HLT
  go_wp2_with fail
  go_ret
  exact ⟨by rw [HF.out]; rfl, HM.out.below⟩
 have HD2 : Hid (hasI T (secOf L r.sg) = false) := Lib.hid (by rw [HSE.out]; exact HDD.out)
 clear HDD HSE HLT
 go_wp2_with fail
 clear c1 c1n h01 h02
 go_loopg [7] (m1 + m3) (fun g i wr => ∃ k : Nat, k + g = m1 + m3 ∧ i = .int .i64 (k : Int) ∧ (∀ j y, j < k → T[j]? = some y → ¬ 1 < cntI (T) y) ∧ FoAt w wr gl gr L r ∧ SlAt 1 intC wr ⟨ta, tc, T⟩ ∧ SlAt 1 intC wr ⟨pa, pc, N.map (·.1)⟩)
 case atStart => exact ⟨0, by omega, rfl, fun j y hj => absurd hj (Nat.not_lt_zero _), HM.out, HS.out, HP.out⟩
 case round =>
  obtain ⟨k, hk, rfl, hst, hM, hS, hP⟩ := hrel
  clear HM HS HP
  have HM := Lib.hid hM
  have HS := Lib.hid hS
  have HP := Lib.hid hP
  have HST := Lib.hid hst
  clear hst hM hS hP
  by_cases hlt : k < m1 + m3
  ·obtain ⟨y, hy⟩ : ∃ y, T[k]? = some y := ⟨_, List.getElem?_eq_getElem (by rw [HT.out]; exact hlt)⟩
   have hrow := HS.out.row
   dsimp only at hrow
   rcases hrow with hnil | ⟨xb, off, rfl, hc⟩
   ·rw [hnil] at hy; simp at hy
   have z0 := hc k _ hy 0 _ rfl
   rw [Nat.add_zero, Nat.mul_one] at z0
   have HY := Lib.hid hy
   have d1 : (0 : Int) ≤ k := by omega
   have d2 : (k : Int) < ((m1 + m3 : Nat) : Int) := by omega
   have d3 := d2
   rw [Int.natCast_add] at d3
   have e0 : wrap64 ((k : Int) + 1) = (k : Int) + 1 := by have := HL1.out; have := HL2.out; unfold wrap64; omega
   have HK := Lib.hid hk
   have HC := Lib.hid (count_is (some ⟨xb, off, none⟩) (m1 + m3) tc (T) y wr HT.out (by have := HL1.out; have := HL2.out; omega) HS.out.row)
   obtain ⟨c, hcc⟩ : ∃ c, cntI (T) y = c := ⟨_, rfl⟩
   rw [hcc] at HC
   have HCC := Lib.hid hcc
   clear hc hy hk hcc
   by_cases c1 : (1 : Int) < c
   ·have c1n : 1 < c := by omega
    have HF : Hid (formedS L r = false) := Lib.hid (fs_1 (by rw [HTN.out.1]; exact dup_big (List.mem_of_getElem? HY.out) (by rw [HCC.out]; omega)))
    go_wp2_with fail
    refine HC.out.mono ?_
    rintro e w5 ⟨rfl, rfl⟩
    go_wp2_with fail
    go_ret
    exact ⟨by rw [HF.out]; rfl, HM.out.below⟩
   ·have c1n : ¬ 1 < c := by omega
    have HX : Hid (∀ j y, j < k + 1 → T[j]? = some y → ¬ 1 < cntI (T) y) := Lib.hid (fun j y2 hj hs => by
     rcases Nat.lt_or_ge j k with h | h
     ·exact HST.out j y2 h hs
     ·have hjk : j = k := by omega
      subst hjk
      rw [HY.out] at hs; cases hs
      rw [HCC.out]; omega)
    go_wp2_with fail
    refine HC.out.mono ?_
    rintro e w5 ⟨rfl, rfl⟩
    go_wp2_with fail
    go_roundg (m1 + m3 - (k + 1))
    case rel => exact ⟨k + 1, by have := HK.out; omega, by go_num, HX.out, HM.out, HS.out, HP.out⟩
    case measure => have := HK.out; omega
  ·have hkm : k = m1 + m3 := by omega
   have HD1 : Hid (dupI [] (T) = false) := Lib.hid (dup_small (fun y hy => by
    obtain ⟨j, hj⟩ := List.getElem?_of_mem hy
    exact HST.out j y (by have := (List.getElem?_eq_some_iff.1 hj).1; have := HT.out; omega) hj))
   have d2 : ¬ (k : Int) < ((m1 + m3 : Nat) : Int) := by omega
   have d3 := d2
   rw [Int.natCast_add] at d3
   clear hk hlt hkm HST
   go_wp2_with fail
   clear d2 d3
   go_loopg [8] (m2 + m4) (fun g i wr => ∃ k : Nat, k + g = m2 + m4 ∧ i = .int .i64 (k : Int) ∧ (∀ j y, j < k → (N.map (·.1))[j]? = some y → ¬ 1 < cntI ((N.map (·.1))) y) ∧ FoAt w wr gl gr L r ∧ SlAt 1 intC wr ⟨ta, tc, T⟩ ∧ SlAt 1 intC wr ⟨pa, pc, N.map (·.1)⟩)
   case atStart => exact ⟨0, by omega, rfl, fun j y hj => absurd hj (Nat.not_lt_zero _), HM.out, HS.out, HP.out⟩
   case round =>
    obtain ⟨k, hk, rfl, hst, hM, hS, hP⟩ := hrel
    clear HM HS HP
    have HM := Lib.hid hM
    have HS := Lib.hid hS
    have HP := Lib.hid hP
    have HST := Lib.hid hst
    clear hst hM hS hP
    by_cases hlt : k < m2 + m4
    ·obtain ⟨y, hy⟩ : ∃ y, (N.map (·.1))[k]? = some y := ⟨_, List.getElem?_eq_getElem (by rw [HPL.out]; exact hlt)⟩
     have hrow := HP.out.row
     dsimp only at hrow
     rcases hrow with hnil | ⟨xb, off, rfl, hc⟩
     ·rw [hnil] at hy; simp at hy
     have z0 := hc k _ hy 0 _ rfl
     rw [Nat.add_zero, Nat.mul_one] at z0
     have HY := Lib.hid hy
     have d1 : (0 : Int) ≤ k := by omega
     have d2 : (k : Int) < ((m2 + m4 : Nat) : Int) := by omega
     have d3 := d2
     rw [Int.natCast_add] at d3
     have e0 : wrap64 ((k : Int) + 1) = (k : Int) + 1 := by have := HL1.out; have := HL2.out; unfold wrap64; omega
     have HK := Lib.hid hk
     have HC := Lib.hid (count_is (some ⟨xb, off, none⟩) (m2 + m4) pc ((N.map (·.1))) y wr HPL.out (by have := HL1.out; have := HL2.out; omega) HP.out.row)
     obtain ⟨c, hcc⟩ : ∃ c, cntI ((N.map (·.1))) y = c := ⟨_, rfl⟩
     rw [hcc] at HC
     have HCC := Lib.hid hcc
     clear hc hy hk hcc
     by_cases c1 : (1 : Int) < c
     ·have c1n : 1 < c := by omega
      have HF : Hid (formedS L r = false) := Lib.hid (fs_3 (by rw [HTN.out.2, dupN_map]; exact dup_big (List.mem_of_getElem? HY.out) (by rw [HCC.out]; omega)))
      go_wp2_with fail
      refine HC.out.mono ?_
      rintro e w5 ⟨rfl, rfl⟩
      go_wp2_with fail
      go_ret
      exact ⟨by rw [HF.out]; rfl, HM.out.below⟩
     ·have c1n : ¬ 1 < c := by omega
      have HX : Hid (∀ j y, j < k + 1 → (N.map (·.1))[j]? = some y → ¬ 1 < cntI ((N.map (·.1))) y) := Lib.hid (fun j y2 hj hs => by
       rcases Nat.lt_or_ge j k with h | h
       ·exact HST.out j y2 h hs
       ·have hjk : j = k := by omega
        subst hjk
        rw [HY.out] at hs; cases hs
        rw [HCC.out]; omega)
      go_wp2_with fail
      refine HC.out.mono ?_
      rintro e w5 ⟨rfl, rfl⟩
      go_wp2_with fail
      go_roundg (m2 + m4 - (k + 1))
      case rel => exact ⟨k + 1, by have := HK.out; omega, by go_num, HX.out, HM.out, HS.out, HP.out⟩
      case measure => have := HK.out; omega
    ·have hkm : k = m2 + m4 := by omega
     have HD3 : Hid (dupI [] ((N.map (·.1))) = false) := Lib.hid (dup_small (fun y hy => by
      obtain ⟨j, hj⟩ := List.getElem?_of_mem hy
      exact HST.out j y (by have := (List.getElem?_eq_some_iff.1 hj).1; have := HPL.out; omega) hj))
     have d2 : ¬ (k : Int) < ((m2 + m4 : Nat) : Int) := by omega
     have d3 := d2
     rw [Int.natCast_add] at d3
     clear hk hlt hkm HST
     go_wp2_with fail
     clear d2 d3
     go_loopg [9, 10] n2 (fun g i _ wr => ∃ k : Nat, k + g = n2 ∧ i = .int .i64 (k : Int) ∧ okPts T r.po.l r.fl.l k (L.po.l.drop k) = okPts T r.po.l r.fl.l 0 L.po.l ∧ FoAt w wr gl gr L r ∧ SlAt 1 intC wr ⟨ta, tc, T⟩)
     case atStart => exact ⟨0, by omega, rfl, rfl, HM.out, HS.out⟩
     case round =>
      obtain ⟨k, hk, rfl, hst, hM, hS⟩ := hrel
      clear HM HS HP
      have HM := Lib.hid hM
      have HS := Lib.hid hS
      have HST := Lib.hid hst
      clear hst hM hS
      by_cases hlt : k < n2
      ·obtain ⟨y, hy⟩ : ∃ y, L.po.l[k]? = some y := ⟨_, List.getElem?_eq_getElem (by rw [HNN.out.1]; exact hlt)⟩
       rcases R2.out.below HM.out.below with hnil | ⟨xb, off, rfl, hc⟩
       ·rw [hnil] at hy; simp at hy
       obtain ⟨y0, y1⟩ := y
       have z1 := hc k _ hy 1 _ rfl
       dsimp only at z1
       have HY := Lib.hid hy
       have d1 : (0 : Int) ≤ k := by omega
       have d2 : (k : Int) < n2 := by omega
       have e0 : wrap64 ((k : Int) + 1) = (k : Int) + 1 := by have := HNN.out; have := M2.out; unfold wrap64; omega
       have HK := Lib.hid hk
       clear hc hy hk
       obtain ⟨D, hD⟩ : ∃ D, hasI T y1 = D := ⟨_, rfl⟩
       obtain ⟨cD, hcc⟩ : ∃ c, cntI T y1 = c := ⟨_, rfl⟩
       have HC := Lib.hid (count_is ta (m1 + m3) tc T y1 wr HT.out (by have := HL1.out; omega) HS.out.row)
       rw [hcc] at HC
       have HLT := Lib.hid (cnt_lt hcc hD)
       have HDD := Lib.hid hD
       clear hcc hD
       obtain ⟨l1, l2, r1, r2, r3, r5⟩ : wr.cell? ⟨gl, 1, none⟩ = some (.slice (some ⟨xb, off, none⟩) n2 c2) ∧ wr.cell? ⟨gl, 2, none⟩ = some (.slice (some ⟨xs, os, none⟩) n3 c3) ∧ wr.cell? ⟨gr, 1, none⟩ = some (.int .i64 (ks : Int)) ∧ wr.cell? ⟨gr, 2, none⟩ = some (.slice b1 m1 e1) ∧ wr.cell? ⟨gr, 3, none⟩ = some (.slice b2 m2 e2) ∧ wr.cell? ⟨gr, 5, none⟩ = some (.slice b4 m4 e4) := by
        obtain ⟨x1, x2, x3, x4⟩ := HV.out
        obtain ⟨y1, y2, y3, y4, y5, y6⟩ := HU.out
        rw [← x2, ← x3, ← y2, ← y3, ← y4, ← y6]
        exact ⟨blk_cell HM.out.lay 1 _ rfl, blk_cell HM.out.lay 2 _ rfl, blk_cell HM.out.rt 1 _ rfl, blk_cell HM.out.rt 2 _ rfl, blk_cell HM.out.rt 3 _ rfl, blk_cell HM.out.rt 5 _ rfl⟩
       go_wp2_with fail
       refine HC.out.mono ?_
       rintro e w5 ⟨rfl, rfl⟩
       clear HC
       clear l1 l2 r1 r2 r3 r5
       rcases HLT.out with ⟨rfl, d5, d5n⟩ | ⟨rfl, d5, d5n⟩
       ·clear HLT
        obtain ⟨l1, l2, r1, r2, r3, r5⟩ : wr.cell? ⟨gl, 1, none⟩ = some (.slice (some ⟨xb, off, none⟩) n2 c2) ∧ wr.cell? ⟨gl, 2, none⟩ = some (.slice (some ⟨xs, os, none⟩) n3 c3) ∧ wr.cell? ⟨gr, 1, none⟩ = some (.int .i64 (ks : Int)) ∧ wr.cell? ⟨gr, 2, none⟩ = some (.slice b1 m1 e1) ∧ wr.cell? ⟨gr, 3, none⟩ = some (.slice b2 m2 e2) ∧ wr.cell? ⟨gr, 5, none⟩ = some (.slice b4 m4 e4) := by
         obtain ⟨x1, x2, x3, x4⟩ := HV.out
         obtain ⟨y1, y2, y3, y4, y5, y6⟩ := HU.out
         rw [← x2, ← x3, ← y2, ← y3, ← y4, ← y6]
         exact ⟨blk_cell HM.out.lay 1 _ rfl, blk_cell HM.out.lay 2 _ rfl, blk_cell HM.out.rt 1 _ rfl, blk_cell HM.out.rt 2 _ rfl, blk_cell HM.out.rt 3 _ rfl, blk_cell HM.out.rt 5 _ rfl⟩
        go_wp2_with fail
        refine (r5points_is b2 m2 e2 r.po.l wr HMM.out.2.1 (by have := HL2.out; omega) (by have := HL2.out; omega) (Q2.out.below HM.out.below)).mono ?_
        rintro e w6 ⟨qa, qn, qc, rfl, hn, hQ, hb⟩
        rw [HMM.out.2.1] at hn
        obtain rfl : m2 = qn := hn.symm
        clear l1 l2 r1 r2 r3 r5
        have hM := HM.out.step hb
        have hS := HS.out.below hb
        clear HM HS hb
        have HM := Lib.hid hM
        have HS := Lib.hid hS
        clear hM hS
        have HQ := Lib.hid hQ
        clear hQ
        obtain ⟨E, hE⟩ : ∃ E, hasP r.po.l k = E := ⟨_, rfl⟩
        obtain ⟨cE, hcc⟩ : ∃ c, cntI (r.po.l.map (·.1)) (k : Int) = c := ⟨_, rfl⟩
        have HC := Lib.hid (count_is qa m2 qc (r.po.l.map (·.1)) (k : Int) w6 (by rw [List.length_map]; exact HMM.out.2.1) (by have := HL2.out; omega) HQ.out.row)
        rw [hcc] at HC
        have HLT := Lib.hid (cnt_lt hcc ((hasP_map _ _).trans hE))
        have HEE := Lib.hid hE
        clear hcc hE
        go_wp2_with fail
        refine HC.out.mono ?_
        rintro e w9 ⟨rfl, rfl⟩
        clear HC HQ
        clear d5 d5n
        rcases HLT.out with ⟨rfl, d6, d6n⟩ | ⟨rfl, d6, d6n⟩
        ·clear HLT
         obtain ⟨l1, l2, r1, r2, r3, r5⟩ : w6.cell? ⟨gl, 1, none⟩ = some (.slice (some ⟨xb, off, none⟩) n2 c2) ∧ w6.cell? ⟨gl, 2, none⟩ = some (.slice (some ⟨xs, os, none⟩) n3 c3) ∧ w6.cell? ⟨gr, 1, none⟩ = some (.int .i64 (ks : Int)) ∧ w6.cell? ⟨gr, 2, none⟩ = some (.slice b1 m1 e1) ∧ w6.cell? ⟨gr, 3, none⟩ = some (.slice b2 m2 e2) ∧ w6.cell? ⟨gr, 5, none⟩ = some (.slice b4 m4 e4) := by
          obtain ⟨x1, x2, x3, x4⟩ := HV.out
          obtain ⟨y1, y2, y3, y4, y5, y6⟩ := HU.out
          rw [← x2, ← x3, ← y2, ← y3, ← y4, ← y6]
          exact ⟨blk_cell HM.out.lay 1 _ rfl, blk_cell HM.out.lay 2 _ rfl, blk_cell HM.out.rt 1 _ rfl, blk_cell HM.out.rt 2 _ rfl, blk_cell HM.out.rt 3 _ rfl, blk_cell HM.out.rt 5 _ rfl⟩
         go_wp2_with fail
         refine (r5points_is b4 m4 e4 r.fl.l w6 HMM.out.2.2.2 (by have := HL2.out; omega) (by have := HL2.out; omega) (Q4.out.below HM.out.below)).mono ?_
         rintro e w7 ⟨qa, qn, qc, rfl, hn, hQ, hb⟩
         rw [HMM.out.2.2.2] at hn
         obtain rfl : m4 = qn := hn.symm
         clear l1 l2 r1 r2 r3 r5
         have hM := HM.out.step hb
         have hS := HS.out.below hb
         clear HM HS hb
         have HM := Lib.hid hM
         have HS := Lib.hid hS
         clear hM hS
         have HQ := Lib.hid hQ
         clear hQ
         obtain ⟨F, hF⟩ : ∃ E, hasP r.fl.l k = E := ⟨_, rfl⟩
         obtain ⟨cF, hcc⟩ : ∃ c, cntI (r.fl.l.map (·.1)) (k : Int) = c := ⟨_, rfl⟩
         have HC := Lib.hid (count_is qa m4 qc (r.fl.l.map (·.1)) (k : Int) w7 (by rw [List.length_map]; exact HMM.out.2.2.2) (by have := HL2.out; omega) HQ.out.row)
         rw [hcc] at HC
         have HLT := Lib.hid (cnt_lt hcc ((hasP_map _ _).trans hF))
         have HFF := Lib.hid hF
         clear hcc hF
         go_wp2_with fail
         refine HC.out.mono ?_
         rintro e w9 ⟨rfl, rfl⟩
         clear HC HQ
         clear d6 d6n
         rcases HLT.out with ⟨rfl, d7, d7n⟩ | ⟨rfl, d7, d7n⟩
         ·clear HLT
          have HF : Hid (formedS L r = false) := Lib.hid (fs_4 (by rw [HTN.out.1, ← HST.out, okPts_drop HY.out, okPt_in HDD.out HEE.out HFF.out]; rfl))
          go_wp2_with fail
          go_ret
          exact ⟨by rw [HF.out]; rfl, HM.out.below⟩
         ·clear HLT
          have HX : Hid (okPts T r.po.l r.fl.l (k + 1) (L.po.l.drop (k + 1)) = okPts T r.po.l r.fl.l 0 L.po.l) := Lib.hid (by rw [← HST.out, okPts_drop HY.out, okPt_in HDD.out HEE.out HFF.out]; rfl)
          go_wp2_with fail
          go_roundg (n2 - (k + 1))
          case rel => exact ⟨k + 1, by have := HK.out; omega, by go_num, HX.out, HM.out, HS.out⟩
          case measure => have := HK.out; omega
        ·clear HLT
         have HF : Hid (formedS L r = false) := Lib.hid (fs_4 (by rw [HTN.out.1, ← HST.out, okPts_drop HY.out, okPt_ne HDD.out HEE.out (by decide)]; rfl))
         go_wp2_with fail
         go_ret
         exact ⟨by rw [HF.out]; rfl, HM.out.below⟩
       ·clear HLT
        obtain ⟨l1, l2, r1, r2, r3, r5⟩ : wr.cell? ⟨gl, 1, none⟩ = some (.slice (some ⟨xb, off, none⟩) n2 c2) ∧ wr.cell? ⟨gl, 2, none⟩ = some (.slice (some ⟨xs, os, none⟩) n3 c3) ∧ wr.cell? ⟨gr, 1, none⟩ = some (.int .i64 (ks : Int)) ∧ wr.cell? ⟨gr, 2, none⟩ = some (.slice b1 m1 e1) ∧ wr.cell? ⟨gr, 3, none⟩ = some (.slice b2 m2 e2) ∧ wr.cell? ⟨gr, 5, none⟩ = some (.slice b4 m4 e4) := by
         obtain ⟨x1, x2, x3, x4⟩ := HV.out
         obtain ⟨y1, y2, y3, y4, y5, y6⟩ := HU.out
         rw [← x2, ← x3, ← y2, ← y3, ← y4, ← y6]
         exact ⟨blk_cell HM.out.lay 1 _ rfl, blk_cell HM.out.lay 2 _ rfl, blk_cell HM.out.rt 1 _ rfl, blk_cell HM.out.rt 2 _ rfl, blk_cell HM.out.rt 3 _ rfl, blk_cell HM.out.rt 5 _ rfl⟩
        go_wp2_with fail
        refine (r5points_is b2 m2 e2 r.po.l wr HMM.out.2.1 (by have := HL2.out; omega) (by have := HL2.out; omega) (Q2.out.below HM.out.below)).mono ?_
        rintro e w6 ⟨qa, qn, qc, rfl, hn, hQ, hb⟩
        rw [HMM.out.2.1] at hn
        obtain rfl : m2 = qn := hn.symm
        clear l1 l2 r1 r2 r3 r5
        have hM := HM.out.step hb
        have hS := HS.out.below hb
        clear HM HS hb
        have HM := Lib.hid hM
        have HS := Lib.hid hS
        clear hM hS
        have HQ := Lib.hid hQ
        clear hQ
        obtain ⟨E, hE⟩ : ∃ E, hasP r.po.l k = E := ⟨_, rfl⟩
        obtain ⟨cE, hcc⟩ : ∃ c, cntI (r.po.l.map (·.1)) (k : Int) = c := ⟨_, rfl⟩
        have HC := Lib.hid (count_is qa m2 qc (r.po.l.map (·.1)) (k : Int) w6 (by rw [List.length_map]; exact HMM.out.2.1) (by have := HL2.out; omega) HQ.out.row)
        rw [hcc] at HC
        have HLT := Lib.hid (cnt_lt hcc ((hasP_map _ _).trans hE))
        have HEE := Lib.hid hE
        clear hcc hE
        go_wp2_with fail
        refine HC.out.mono ?_
        rintro e w9 ⟨rfl, rfl⟩
        clear HC HQ
        clear d5 d5n
        rcases HLT.out with ⟨rfl, d6, d6n⟩ | ⟨rfl, d6, d6n⟩
        ·clear HLT
         have HF : Hid (formedS L r = false) := Lib.hid (fs_4 (by rw [HTN.out.1, ← HST.out, okPts_drop HY.out, okPt_ne HDD.out HEE.out (by decide)]; rfl))
         go_wp2_with fail
         go_ret
         exact ⟨by rw [HF.out]; rfl, HM.out.below⟩
        ·clear HLT
         have HX : Hid (okPts T r.po.l r.fl.l (k + 1) (L.po.l.drop (k + 1)) = okPts T r.po.l r.fl.l 0 L.po.l) := Lib.hid (by rw [← HST.out, okPts_drop HY.out, okPt_no HDD.out HEE.out]; rfl)
         go_wp2_with fail
         go_roundg (n2 - (k + 1))
         case rel => exact ⟨k + 1, by have := HK.out; omega, by go_num, HX.out, HM.out, HS.out⟩
         case measure => have := HK.out; omega
      ·have hkm : n2 = k := by omega
       subst hkm
       have HF : Hid (formedS L r = true) := Lib.hid (fs_5 (by rw [HMM.out.1]; exact H0.out) (by rw [HTN.out.1]; exact HD1.out) (by rw [HTN.out.1]; exact HD2.out) (by rw [HTN.out.2, dupN_map]; exact HD3.out) (by rw [HTN.out.1, ← HST.out, okPts_end HNN.out.1]))
       obtain ⟨l1, l2, r1, r2, r3, r5⟩ : wr.cell? ⟨gl, 1, none⟩ = some (.slice a2 n2 c2) ∧ wr.cell? ⟨gl, 2, none⟩ = some (.slice (some ⟨xs, os, none⟩) n3 c3) ∧ wr.cell? ⟨gr, 1, none⟩ = some (.int .i64 (ks : Int)) ∧ wr.cell? ⟨gr, 2, none⟩ = some (.slice b1 m1 e1) ∧ wr.cell? ⟨gr, 3, none⟩ = some (.slice b2 m2 e2) ∧ wr.cell? ⟨gr, 5, none⟩ = some (.slice b4 m4 e4) := by
        obtain ⟨x1, x2, x3, x4⟩ := HV.out
        obtain ⟨y1, y2, y3, y4, y5, y6⟩ := HU.out
        rw [← x2, ← x3, ← y2, ← y3, ← y4, ← y6]
        exact ⟨blk_cell HM.out.lay 1 _ rfl, blk_cell HM.out.lay 2 _ rfl, blk_cell HM.out.rt 1 _ rfl, blk_cell HM.out.rt 2 _ rfl, blk_cell HM.out.rt 3 _ rfl, blk_cell HM.out.rt 5 _ rfl⟩
       go_wp2_with fail
       go_ret
       exact ⟨by rw [HF.out]; rfl, HM.out.below⟩
end Go.Proofs.Ytjienmjpfklgeaa
namespace Go.Proofs.Ytjienmjpfklgeaa
open Go.RowKit
set_option maxRecDepth 100000
attribute [local irreducible] hasI hasP dupI dupN okPt okPts secOf formedS Sl.v cntI ixF mayS

theorem bad_end {L : Lay} {k : Nat} (h : L.rt.l.length = k) (hb : ixF (fun r => !formedS L r) k (L.rt.l.drop k) = badS L) : badS L = -1 := by rw [← hb, ixF_end h]
theorem bad_hit {L : Lay} {k : Nat} {y : Rt} (hy : L.rt.l[k]? = some y) (hf : formedS L y = false) (hb : ixF (fun r => !formedS L r) k (L.rt.l.drop k) = badS L) : badS L = k := by rw [← hb, ixF_drop hy, hf]; rfl
theorem bad_on {L : Lay} {k : Nat} {y : Rt} (hy : L.rt.l[k]? = some y) (hf : formedS L y = true) (hb : ixF (fun r => !formedS L r) k (L.rt.l.drop k) = badS L) : ixF (fun r => !formedS L r) (k + 1) (L.rt.l.drop (k + 1)) = badS L := by rw [← hb, ixF_drop hy, hf]; rfl
attribute [local irreducible] badS
set_option maxRecDepth 100000 in
set_option maxHeartbeats 4000000 in
theorem rcheck_is (L : Lay) (w : World) (hL : LayAt w L) :
 Calls Try.prog 16 #[.agg #[L.se.v, L.po.v, L.sg.v, L.rt.v]] w fun e w' => e = .returned (.tuple #[.int .i64 (checkS L).1, .int .i64 (checkS L).2]) ∧ Below w.heap.size w w' := by
 have HMAY : Hid (∀ W, Below w.heap.size w W → Calls Try.prog 36 #[.agg #[L.se.v, L.po.v, L.sg.v, L.rt.v]] W fun e w' => e = .returned (.bool (mayS L)) ∧ Below W.heap.size W w') := Lib.hid (fun W hW => rmay_lay L W (hL.below hW))
 have HFO : Hid (mayS L = true → ∀ W, Below w.heap.size w W → ∀ r ∈ L.rt.l, Calls Try.prog 37 #[.agg #[L.se.v, L.po.v, L.sg.v, L.rt.v], .agg #[.string r.nm, .int .i64 r.sg, r.pa.v, r.po.v, r.ov.v, r.fl.v]] W fun e w' => e = .returned (.bool (formedS L r)) ∧ Below W.heap.size W w') := Lib.hid (fun hmay W hW r hr => by
  have ho := mayS_rt hmay r hr
  exact rformed_is L r W (hL.below hW) ((hL.rn r hr).below hW) ho.s0 ho.s1 (by have := ho.pa; have := ho.ov; omega) (by have := ho.po; have := ho.fl; omega))
 have HROW := Lib.hid hL.rt.row
 obtain ⟨n1, hn1⟩ : ∃ n, L.se.l.length = n := ⟨_, rfl⟩
 obtain ⟨n2, hn2⟩ : ∃ n, L.po.l.length = n := ⟨_, rfl⟩
 obtain ⟨n3, hn3⟩ : ∃ n, L.sg.l.length = n := ⟨_, rfl⟩
 obtain ⟨n4, hn4⟩ : ∃ n, L.rt.l.length = n := ⟨_, rfl⟩
 have hm4 : n4 ≤ 9223372036854775807 := by rw [← hn4]; exact hL.rt.lenM
 have HN4 := Lib.hid hn4
 have HM4 := Lib.hid hm4
 rw [slv hn1, slv hn2, slv hn3, slv hn4] at HMAY HFO ⊢
 clear hn1 hn2 hn3 hn4 hm4 hL
 obtain ⟨gl, hgl⟩ : ∃ g, g = w.heap.size := ⟨_, rfl⟩
 have HGL := Lib.hid hgl
 clear hgl
 obtain ⟨B, hB⟩ : ∃ B, mayS L = B := ⟨_, rfl⟩
 rw [hB] at HMAY
 have HBB := Lib.hid hB
 clear hB
 go_enter Try.func16, Try.ntmps16
 go_wp2_with fail
 refine (HMAY.out _ (below1 w _)).mono ?_
 rintro e w1 ⟨rfl, hb1⟩
 have hq := blk_keep hb1 (alloc1 w (.cells #[.slice L.se.a n1 L.se.c, .slice L.po.a n2 L.po.c, .slice L.sg.a n3 L.sg.c, .slice L.rt.a n4 L.rt.c] 27) (Below.refl _ _))
 have hbw := below_on (below1 w _) hb1
 rw [← HGL.out] at hq ⊢
 have HB1 := Lib.hid hbw
 have HQ := Lib.hid hq
 clear hb1 hbw hq
 cases B with
 | false =>
   have HF := Lib.hid (cs_no HBB.out)
   clear HQ
   go_wp2_with fail
   go_ret2
   exact ⟨by rw [HF.out]; rfl, HB1.out⟩
 | true =>
   go_wp2_with fail
   go_loopg [2, 3, 4] n4 (fun g _ _ i wr => ∃ k : Nat, k + g = n4 ∧ i = .int .i64 (k : Int) ∧ ixF (fun r => !formedS L r) k (L.rt.l.drop k) = badS L ∧ wr.heap[gl]? = some (.cells #[.slice L.se.a n1 L.se.c, .slice L.po.a n2 L.po.c, .slice L.sg.a n3 L.sg.c, .slice L.rt.a n4 L.rt.c] 27) ∧ Below w.heap.size w wr)
   case atStart => exact ⟨0, by omega, rfl, by unfold badS; rfl, HQ.out, HB1.out⟩
   case round =>
    obtain ⟨k, hk, rfl, hst, hq, hbw⟩ := hrel
    clear HQ HB1
    have HST := Lib.hid hst
    have HQ := Lib.hid hq
    have HB1 := Lib.hid hbw
    have l3 := blk_cell hq 3 _ rfl
    clear hst hq hbw
    by_cases hlt : k < n4
    ·have HK := Lib.hid hk
     have e0 : wrap64 ((k : Int) + 1) = (k : Int) + 1 := by have := HM4.out; unfold wrap64; omega
     obtain ⟨y, hy⟩ : ∃ y, L.rt.l[k]? = some y := ⟨_, List.getElem?_eq_getElem (by rw [HN4.out]; exact hlt)⟩
     have hcall := fun W (hW : Below wr.heap.size wr W) => HFO.out HBB.out W (below_on HB1.out hW) y (List.mem_of_getElem? hy)
     have HY := Lib.hid hy
     rcases HROW.out.below HB1.out with hnil | ⟨xb, off, hxb, hc⟩
     ·rw [hnil] at hy; simp at hy
     have z0 := hc k _ hy 0 _ rfl
     have z1 := hc k _ hy 1 _ rfl
     have z2 := hc k _ hy 2 _ rfl
     have z3 := hc k _ hy 3 _ rfl
     have z4 := hc k _ hy 4 _ rfl
     have z5 := hc k _ hy 5 _ rfl
     rw [Nat.add_zero] at z0
     obtain ⟨D, hD⟩ : ∃ D, formedS L y = D := ⟨_, rfl⟩
     rw [hD] at hcall
     have HD := Lib.hid hD
     obtain ⟨m1, hm1⟩ : ∃ n, y.pa.l.length = n := ⟨_, rfl⟩
     obtain ⟨m2, hm2⟩ : ∃ n, y.po.l.length = n := ⟨_, rfl⟩
     obtain ⟨m3, hm3⟩ : ∃ n, y.ov.l.length = n := ⟨_, rfl⟩
     obtain ⟨m4, hm4⟩ : ∃ n, y.fl.l.length = n := ⟨_, rfl⟩
     rw [slv hm1, slv hm2, slv hm3, slv hm4] at hcall
     rw [slv hm1] at z2
     rw [slv hm2] at z3
     rw [slv hm3] at z4
     rw [slv hm4] at z5
     have HC : Hid (∀ W, Below wr.heap.size wr W → Calls Try.prog 37 #[.agg #[.slice L.se.a n1 L.se.c, .slice L.po.a n2 L.po.c, .slice L.sg.a n3 L.sg.c, .slice L.rt.a n4 L.rt.c], .agg #[.string y.nm, .int .i64 y.sg, .slice y.pa.a m1 y.pa.c, .slice y.po.a m2 y.po.c, .slice y.ov.a m3 y.ov.c, .slice y.fl.a m4 y.fl.c]] W fun e w' => e = .returned (.bool D) ∧ Below wr.heap.size wr w') := Lib.hid (fun W hW => (hcall W hW).mono (fun e w9 h => ⟨h.1, below_on hW h.2⟩))
     have HZ := Lib.hid (And.intro z0 (And.intro z1 (And.intro z2 (And.intro z3 (And.intro z4 z5)))))
     have d1 : (0 : Int) ≤ k := by omega
     have d2 : (k : Int) < n4 := by omega
     clear hc hcall hy hD hm1 hm2 hm3 hm4 z0 z1 z2 z3 z4 z5
     clear hk
     obtain ⟨x, hx⟩ : ∃ x, L.rt.a = x := ⟨_, rfl⟩
     have HXX := Lib.hid hx
     rw [hx] at l3 HQ HC hxb ⊢
     subst hxb
     clear hx hlt
     go_upto_region 6 with fail
     refine wp_region_calm (by kernel_rfl) ?_ ?_
     ·kernel_rfl
     repeat first
      | go_big_quiet_skip
      | (go_big_quiet_want; go_big_quiet_op; go_big_quiet_on)
      | (with_reducible apply wpQuiet_step
         intro K hK
         go_simp
         first
          | (refine hK _ ?_; clear hK K)
          | (apply Exists.intro
             refine ⟨fun w' hw' => ?_, hK _ ?_⟩
             ·
              (first
               | with_reducible exact HC.out _ hw'
               | (have g0 := blk_cell (blk_keep hw' HQ.out) 0 _ rfl
                  have g1 := blk_cell (blk_keep hw' HQ.out) 1 _ rfl
                  have g2 := blk_cell (blk_keep hw' HQ.out) 2 _ rfl
                  have g3 := blk_cell (blk_keep hw' HQ.out) 3 _ rfl
                  have f0 := cell_later hw' HZ.out.1
                  have f1 := cell_later hw' HZ.out.2.1
                  have f2 := cell_later hw' HZ.out.2.2.1
                  have f3 := cell_later hw' HZ.out.2.2.2.1
                  have f4 := cell_later hw' HZ.out.2.2.2.2.1
                  have f5 := cell_later hw' HZ.out.2.2.2.2.2
                  go_simp
                  first | done | with_reducible exact rfl | with_reducible exact ⟨rfl, rfl⟩ | with_reducible exact HC.out _ hw'))
             clear hK K))
     refine wpQuiet_nil ?_
     intro w7 hw7
     have HB7 := Lib.hid (below_on HB1.out hw7)
     have HQ7 := Lib.hid (blk_keep hw7 HQ.out)
     clear hw7 l3
     cases D with
     | false =>
       have HF := Lib.hid (cs_bad HBB.out (bad_hit HY.out HD.out HST.out) (Int.natCast_nonneg k))
       go_wp2_with fail
       go_ret2
       exact ⟨by rw [HF.out]; rfl, HB7.out⟩
     | true =>
       have HX := Lib.hid (bad_on HY.out HD.out HST.out)
       go_wp2_with fail
       rw [← HXX.out]
       go_roundg (n4 - (k + 1))
       case rel => exact ⟨k + 1, by have := HK.out; omega, by go_num, HX.out, by rw [HXX.out]; exact HQ7.out, HB7.out⟩
       case measure => have := HK.out; omega
    ·have hkm : n4 = k := by omega
     subst hkm
     have HF := Lib.hid (cs_ok HBB.out (bad_end HN4.out HST.out) (by decide))
     go_wp2_with fail
     go_ret2
     exact ⟨by rw [HF.out]; rfl, HB1.out⟩
end Go.Proofs.Ytjienmjpfklgeaa
