/-
  Walks: the document's points, Names, full.
-/
import Derived.Test.YtdkcpejlojdijaaToE
namespace Go.Proofs.Ytdkcpejlojdijaa
open Go.RowKit
attribute [local irreducible] hasN belowB mayB

theorem fst_take {l : List (Int × Bool)} {k : Nat} {c : Int × Bool} (h : l[k]? = some c) : ((l.take (k + 1)).map (·.1)).flatMap intC = ((l.take k).map (·.1)).flatMap intC ++ [.int .i64 c.1] := by
  rw [List.take_add_one, h, List.map_append, List.flatMap_append]; rfl
set_option maxRecDepth 100000 in
set_option maxHeartbeats 1000000 in
theorem rpoints_is (x : Option Addr) (m c : Nat) (l : List (Int × Bool)) (w : World) (hn : l.length = m) (hm : m ≤ 9223372036854775807) (hl : RowAt 2 ndC w x l) :
    Calls Try.prog 49 #[.slice x m c] w fun e w' => ∃ a n cc, e = .returned (.slice a n cc) ∧ n = min 17 l.length ∧ SlAt 1 intC w' ⟨a, cc, (l.map (·.1)).take 17⟩ ∧ Below w.heap.size w w' := by
  have HN := Lib.hid hn
  clear hn
  obtain ⟨i0, hi, hz0, hz1, hz2⟩ := info_parts info_int
  have HI := Lib.hid (And.intro hi (And.intro hz0 (And.intro hz1 hz2)))
  clear hi hz0 hz1 hz2
  go_enter Try.func49, Try.ntmps49
  go_wp2_with fail
  go_loopg [3, 4] m (fun g v i wr => ∃ k : Nat, k + g = m ∧ k ≤ 17 ∧ i = .int .i64 (k : Int) ∧ wr.ownsRow w.heap.size 3 1 v k (((l.take k).map (·.1)).flatMap intC) ∧ Below w.heap.size w wr)
  case atStart => exact ⟨0, by omega, by omega, rfl, by rw [List.take_zero]; exact World.ownsRow_nil _ _ _ _, Below.refl _ _⟩
  case round =>
    obtain ⟨k, hk, hk17, rfl, hO, hbw⟩ := hrel
    by_cases hlt : k < m
    · by_cases h17 : k < 17
      · skip
        obtain ⟨y, hy⟩ : ∃ y, l[k]? = some y := ⟨_, List.getElem?_eq_getElem (by rw [HN.out]; exact hlt)⟩
        rcases hl.below hbw with rfl | ⟨b, off, rfl, hc⟩
        · simp at hy
        obtain ⟨y0, y1⟩ := y
        have z0 := hc k _ hy 0 _ rfl
        rw [Nat.add_zero] at z0
        dsimp only at z0
        have HY := Lib.hid hy
        have d1 : (0 : Int) ≤ k := by omega
        have d2 : (k : Int) < m := by omega
        have d3 : (k : Int) < 17 := by omega
        have e1 : wrap64 ((k : Int) + 1) = (k : Int) + 1 := by unfold wrap64; omega
        have HK := Lib.hid hk
        have HB := Lib.hid (show k ≤ 100000 by omega)
        have HBW := Lib.hid hbw
        have HOW := Lib.hid (own_below (below1 wr (Obj.cells #[.int .i64 y0] 3)) hO)
        have HSR := Lib.hid (src_one (u := .int .i64 y0) rfl (alloc1 wr (Obj.cells #[.int .i64 y0] 3) (Below.refl _ _)))
        clear hc hy hk hbw hO
        go_wp2_with (at_builtin; refine wpList_append_src rfl _ _ 22 rfl w.heap.size 3 i0 (.int .i64 0) 1 8 Try.underlying22 HI.out.1 HI.out.2.1 HI.out.2.2.1 HI.out.2.2.2 rfl (by decide) _ k (((l.take k).map (fun (p : Int × Bool) => p.1)).flatMap intC) rfl HOW.out (some ⟨wr.heap.size, 0, none⟩) 1 1 [.int .i64 y0] rfl rfl HSR.out (by have := HB.out; unfold maxLen; omega) (by have := HB.out; omega) (by have := HBW.out.size; simp; omega) ?_; intro v4 W4 hown4 hg4)
        have hB7 : Below w.heap.size w W4 := (HBW.out.alloc HBW.out.size _).grown hg4 (by have := HBW.out.size; simp; omega) (fun k hk => (HOW.out.lt _ hk).1)
        go_roundg (m - (k + 1))
        case rel => exact ⟨k + 1, by have := HK.out; omega, by omega, by go_num, by rw [fst_take HY.out]; exact hown4, hB7⟩
        case measure => have := HK.out; omega
      · have d2 : (k : Int) < m := by omega
        have d3 : ¬ (k : Int) < 17 := by omega
        have hkb : k = 17 := by omega
        subst hkb
        have hF : (l.take 17).map (·.1) = (l.map (·.1)).take 17 := List.map_take
        have hL : ((l.take 17).map (·.1)).length = 17 := by rw [List.length_map, List.length_take, HN.out]; omega
        obtain ⟨a, cc, rfl, hS⟩ := own_sl int_len hL hO
        rw [hF] at hS
        have HS := Lib.hid hS
        have HBW := Lib.hid hbw
        have HK := Lib.hid (show 17 = min 17 l.length by have := HN.out; omega)
        clear hO hS hbw hk hF hL
        go_wp2_with fail
        go_ret
        exact ⟨a, 17, cc, rfl, HK.out, HS.out, HBW.out⟩
    · have d2 : ¬ (k : Int) < m := by omega
      have hF : (l.take k).map (·.1) = (l.map (·.1)).take 17 := by rw [List.take_of_length_le (by rw [HN.out]; omega), List.take_of_length_le (by rw [List.length_map, HN.out]; omega)]
      have hL : ((l.take k).map (·.1)).length = k := by rw [List.length_map, List.length_take, HN.out]; omega
      obtain ⟨a, cc, rfl, hS⟩ := own_sl int_len hL hO
      rw [hF] at hS
      have HS := Lib.hid hS
      have HBW := Lib.hid hbw
      have HK := Lib.hid (show k = min 17 l.length by have := HN.out; omega)
      clear hO hS hbw hk hF hL
      go_wp2_with fail
      go_ret
      exact ⟨a, k, cc, rfl, HK.out, HS.out, HBW.out⟩
set_option maxRecDepth 100000 in
set_option maxHeartbeats 1000000 in
theorem r5points_is (x : Option Addr) (m c : Nat) (l : List (Int × Bool)) (w : World) (hn : l.length = m) (hm : m ≤ 9223372036854775807) (hmm : m ≤ 100000) (hl : RowAt 2 ndC w x l) :
    Calls Try.prog 50 #[.slice x m c] w fun e w' => ∃ a n cc, e = .returned (.slice a n cc) ∧ n = l.length ∧ SlAt 1 intC w' ⟨a, cc, l.map (·.1)⟩ ∧ Below w.heap.size w w' := by
  have HN := Lib.hid hn
  clear hn
  obtain ⟨i0, hi, hz0, hz1, hz2⟩ := info_parts info_int
  have HI := Lib.hid (And.intro hi (And.intro hz0 (And.intro hz1 hz2)))
  clear hi hz0 hz1 hz2
  go_enter Try.func50, Try.ntmps50
  go_wp2_with fail
  go_loopg [3, 4] m (fun g v i wr => ∃ k : Nat, k + g = m ∧ i = .int .i64 (k : Int) ∧ wr.ownsRow w.heap.size 3 1 v k (((l.take k).map (·.1)).flatMap intC) ∧ Below w.heap.size w wr)
  case atStart => exact ⟨0, by omega, rfl, by rw [List.take_zero]; exact World.ownsRow_nil _ _ _ _, Below.refl _ _⟩
  case round =>
    obtain ⟨k, hk, rfl, hO, hbw⟩ := hrel
    by_cases hlt : k < m
    · skip
      obtain ⟨y, hy⟩ : ∃ y, l[k]? = some y := ⟨_, List.getElem?_eq_getElem (by rw [HN.out]; exact hlt)⟩
      rcases hl.below hbw with rfl | ⟨b, off, rfl, hc⟩
      · simp at hy
      obtain ⟨y0, y1⟩ := y
      have z0 := hc k _ hy 0 _ rfl
      rw [Nat.add_zero] at z0
      dsimp only at z0
      have HY := Lib.hid hy
      have d1 : (0 : Int) ≤ k := by omega
      have d2 : (k : Int) < m := by omega
      skip
      have e1 : wrap64 ((k : Int) + 1) = (k : Int) + 1 := by unfold wrap64; omega
      have HK := Lib.hid hk
      have HB := Lib.hid (show k ≤ 100000 by omega)
      have HBW := Lib.hid hbw
      have HOW := Lib.hid (own_below (below1 wr (Obj.cells #[.int .i64 y0] 3)) hO)
      have HSR := Lib.hid (src_one (u := .int .i64 y0) rfl (alloc1 wr (Obj.cells #[.int .i64 y0] 3) (Below.refl _ _)))
      clear hc hy hk hbw hO
      go_wp2_with (at_builtin; refine wpList_append_src rfl _ _ 22 rfl w.heap.size 3 i0 (.int .i64 0) 1 8 Try.underlying22 HI.out.1 HI.out.2.1 HI.out.2.2.1 HI.out.2.2.2 rfl (by decide) _ k (((l.take k).map (fun (p : Int × Bool) => p.1)).flatMap intC) rfl HOW.out (some ⟨wr.heap.size, 0, none⟩) 1 1 [.int .i64 y0] rfl rfl HSR.out (by have := HB.out; unfold maxLen; omega) (by have := HB.out; omega) (by have := HBW.out.size; simp; omega) ?_; intro v4 W4 hown4 hg4)
      have hB7 : Below w.heap.size w W4 := (HBW.out.alloc HBW.out.size _).grown hg4 (by have := HBW.out.size; simp; omega) (fun k hk => (HOW.out.lt _ hk).1)
      go_roundg (m - (k + 1))
      case rel => exact ⟨k + 1, by have := HK.out; omega, by go_num, by rw [fst_take HY.out]; exact hown4, hB7⟩
      case measure => have := HK.out; omega
    · have d2 : ¬ (k : Int) < m := by omega
      have hF : (l.take k).map (·.1) = l.map (·.1) := by rw [List.take_of_length_le (by rw [HN.out]; omega)]
      have hL : ((l.take k).map (·.1)).length = k := by rw [List.length_map, List.length_take, HN.out]; omega
      obtain ⟨a, cc, rfl, hS⟩ := own_sl int_len hL hO
      rw [hF] at hS
      have HS := Lib.hid hS
      have HBW := Lib.hid hbw
      have HK := Lib.hid (show k = l.length by have := HN.out; omega)
      clear hO hS hbw hk hF hL
      go_wp2_with fail
      go_ret
      exact ⟨a, k, cc, rfl, HK.out, HS.out, HBW.out⟩
theorem full_is (L : Lay) (w : World) : Calls Try.prog 44 #[.agg #[L.se.v, L.po.v, L.sg.v, L.rt.v]] w fun e w' => e = .returned (.bool (!L.small)) ∧ Below w.heap.size w w' := by
  obtain ⟨n1, hn1⟩ : ∃ n, L.se.l.length = n := ⟨_, rfl⟩
  obtain ⟨n2, hn2⟩ : ∃ n, L.po.l.length = n := ⟨_, rfl⟩
  obtain ⟨n3, hn3⟩ : ∃ n, L.sg.l.length = n := ⟨_, rfl⟩
  obtain ⟨n4, hn4⟩ : ∃ n, L.rt.l.length = n := ⟨_, rfl⟩
  rw [slv hn1, slv hn2, slv hn3, slv hn4]
  have N := Lib.hid (And.intro hn1 (And.intro hn2 (And.intro hn3 hn4)))
  clear hn1 hn2 hn3 hn4
  by_cases x1 : 64 < n1
  · have HF : Hid (L.small = false) := Lib.hid (small_no (by have := N.out; omega))
    have y1 : (64 : Int) < (n1 : Nat) := by omega
    clear x1
    skip
    go_enter Try.func44, Try.ntmps44
    go_wp2_with fail
    go_ret
    exact ⟨by rw [HF.out]; rfl, below1 _ _⟩
  have y1 : ¬ (64 : Int) < (n1 : Nat) := by omega
  by_cases x2 : 32 < n2
  · have HF : Hid (L.small = false) := Lib.hid (small_no (by have := N.out; omega))
    have y1 : (32 : Int) < (n2 : Nat) := by omega
    clear x2
    skip
    go_enter Try.func44, Try.ntmps44
    go_wp2_with fail
    go_ret
    exact ⟨by rw [HF.out]; rfl, below1 _ _⟩
  have y2 : ¬ (32 : Int) < (n2 : Nat) := by omega
  by_cases x3 : 32 < n3
  · have HF : Hid (L.small = false) := Lib.hid (small_no (by have := N.out; omega))
    have y1 : (32 : Int) < (n3 : Nat) := by omega
    clear x3
    skip
    go_enter Try.func44, Try.ntmps44
    go_wp2_with fail
    go_ret
    exact ⟨by rw [HF.out]; rfl, below1 _ _⟩
  have y3 : ¬ (32 : Int) < (n3 : Nat) := by omega
  by_cases x4 : 64 < n4
  · have HF : Hid (L.small = false) := Lib.hid (small_no (by have := N.out; omega))
    have y1 : (64 : Int) < (n4 : Nat) := by omega
    clear x4
    skip
    go_enter Try.func44, Try.ntmps44
    go_wp2_with fail
    go_ret
    exact ⟨by rw [HF.out]; rfl, below1 _ _⟩
  have y4 : ¬ (64 : Int) < (n4 : Nat) := by omega
  have HF : Hid (L.small = true) := Lib.hid (small_yes (by have := N.out; omega) (by have := N.out; omega) (by have := N.out; omega) (by have := N.out; omega))
  clear x1 x2 x3 x4
  skip
  go_enter Try.func44, Try.ntmps44
  go_wp2_with fail
  go_ret
  exact ⟨by rw [HF.out]; rfl, below1 _ _⟩
theorem small_get {L : Lay} (h : L.small = true) : L.se.l.length ≤ 64 ∧ L.po.l.length ≤ 32 ∧ L.sg.l.length ≤ 32 ∧ L.rt.l.length ≤ 64 := of_decide_eq_true h
theorem srcAt_below {w w' : World} {a : Option Addr} {c : Nat} {l : List Value} (h : SrcAt w a c l) (hb : Below w.heap.size w w') : SrcAt w' a c l := ⟨h.1, h.2.1, fun ad had j u hu => cell_later hb (h.2.2 ad had j u hu)⟩
def Lay.all (L : Lay) : List BA := L.n3 ++ L.rt.l.map (·.nm)
theorem all_eq (L : Lay) : L.n3 ++ L.rt.l.map (·.nm) = L.all := rfl
theorem all_len {L : Lay} {n1 n2 n3 n4 : Nat} (h1 : L.se.l.length = n1) (h2 : L.po.l.length = n2) (h3 : L.sg.l.length = n3) (h4 : L.rt.l.length = n4) : L.all.length = n1 + n2 + n3 + n4 := by
  unfold Lay.all Lay.n3 Lay.n2; simp [h1, h2, h3, h4]; omega
theorem flat_one (s : BA) : [s].flatMap strC = [.string s] := rfl
theorem nm_take {α : Type} {pre : List BA} {f : α → BA} {l : List α} {k : Nat} {c : α} (h : l[k]? = some c) : (pre ++ (l.take (k + 1)).map f).flatMap strC = (pre ++ (l.take k).map f).flatMap strC ++ [.string (f c)] := by
  rw [take_names h, ← List.append_assoc, List.flatMap_append, flat_one]
attribute [local irreducible] Lay.n1 Lay.n2 Lay.n3 Lay.all Sl.v strC
set_option maxRecDepth 100000 in
set_option maxHeartbeats 8000000 in
theorem names_is (L : Lay) (w : World) (hL : LayAt w L) (hs : L.small = true) : Calls Try.prog 45 #[.agg #[L.se.v, L.po.v, L.sg.v, L.rt.v]] w fun e w' => ∃ a n c, e = .returned (.slice a n c) ∧ n = L.all.length ∧ SlAt 1 strC w' ⟨a, c, L.all⟩ ∧ Below w.heap.size w w' := by
  have HA := Lib.hid hL
  obtain ⟨n1, hn1⟩ : ∃ n, L.se.l.length = n := ⟨_, rfl⟩
  obtain ⟨n2, hn2⟩ : ∃ n, L.po.l.length = n := ⟨_, rfl⟩
  obtain ⟨n3, hn3⟩ : ∃ n, L.sg.l.length = n := ⟨_, rfl⟩
  obtain ⟨n4, hn4⟩ : ∃ n, L.rt.l.length = n := ⟨_, rfl⟩
  have HXX := Lib.hid (small_get hs)
  rw [hn1, hn2, hn3, hn4] at HXX
  have v1 := slv hn1
  have v2 := slv hn2
  have v3 := slv hn3
  have v4 := slv hn4
  have R2 := Lib.hid hL.po.row
  have R3 := Lib.hid hL.sg.row
  have R4 := Lib.hid hL.rt.row
  have S1 := Lib.hid (src_sl str_len str_one hL.se)
  obtain ⟨a1, ha1⟩ : ∃ a, L.se.a = a := ⟨_, rfl⟩
  obtain ⟨a2, ha2⟩ : ∃ a, L.po.a = a := ⟨_, rfl⟩
  obtain ⟨a3, ha3⟩ : ∃ a, L.sg.a = a := ⟨_, rfl⟩
  obtain ⟨a4, ha4⟩ : ∃ a, L.rt.a = a := ⟨_, rfl⟩
  obtain ⟨c1, hc1⟩ : ∃ c, L.se.c = c := ⟨_, rfl⟩
  obtain ⟨c2, hc2⟩ : ∃ c, L.po.c = c := ⟨_, rfl⟩
  obtain ⟨c3, hc3⟩ : ∃ c, L.sg.c = c := ⟨_, rfl⟩
  obtain ⟨c4, hc4⟩ : ∃ c, L.rt.c = c := ⟨_, rfl⟩
  rw [ha1, hc1] at v1 S1
  rw [ha2, hc2] at v2
  rw [ha3, hc3] at v3
  rw [ha4, hc4] at v4
  rw [ha2] at R2
  rw [ha3] at R3
  rw [ha4] at R4
  rw [v1, v2, v3, v4]
  have N1 := Lib.hid hn1
  have N2 := Lib.hid hn2
  have N3 := Lib.hid hn3
  have N4 := Lib.hid hn4
  clear hn1 hn2 hn3 hn4 ha1 ha2 ha3 ha4 hc1 hc2 hc3 hc4 v1 v2 v3 v4 hL hs
  obtain ⟨gl, hgl⟩ : ∃ g, g = w.heap.size := ⟨_, rfl⟩
  obtain ⟨i0, hi, hz0, hz1, hz2⟩ := info_parts info_str
  have HI := Lib.hid (And.intro hi (And.intro hz0 (And.intro hz1 hz2)))
  clear hi hz0 hz1 hz2
  obtain ⟨W, hW⟩ : ∃ W, W = w.alloc (.cells #[.slice a1 n1 c1, .slice a2 n2 c2, .slice a3 n3 c3, .slice a4 n4 c4] 39) := ⟨_, rfl⟩
  have hBW := below1 w (.cells #[.slice a1 n1 c1, .slice a2 n2 c2, .slice a3 n3 c3, .slice a4 n4 c4] 39)
  have hlay : W.heap[gl]? = some (.cells #[.slice a1 n1 c1, .slice a2 n2 c2, .slice a3 n3 c3, .slice a4 n4 c4] 39) := by rw [hW, hgl]; exact alloc1 w _ (Below.refl _ _)
  rw [← hW] at hBW
  have HBW := Lib.hid hBW
  have HLY := Lib.hid hlay
  have HSS := Lib.hid (srcAt_below S1.out hBW)
  have HW := Lib.hid hW
  have HGL := Lib.hid hgl
  clear hBW hlay hW S1
  go_enter Try.func45, Try.ntmps45
  go_upto_region 1 with fail
  rw [← HW.out, ← hgl]
  clear hgl
  obtain ⟨l0, l1, l2, l3⟩ : W.cell? ⟨gl, 0, none⟩ = some (.slice a1 n1 c1) ∧ W.cell? ⟨gl, 1, none⟩ = some (.slice a2 n2 c2) ∧ W.cell? ⟨gl, 2, none⟩ = some (.slice a3 n3 c3) ∧ W.cell? ⟨gl, 3, none⟩ = some (.slice a4 n4 c4) := ⟨blk_cell HLY.out 0 _ rfl, blk_cell HLY.out 1 _ rfl, blk_cell HLY.out 2 _ rfl, blk_cell HLY.out 3 _ rfl⟩
  go_wp2_with (at_builtin; refine wpList_append_src rfl _ _ 34 rfl W.heap.size 9 i0 (.string ⟨#[]⟩) 1 16 Try.underlying34 HI.out.1 HI.out.2.1 HI.out.2.2.1 HI.out.2.2.2 rfl (by decide) (.slice none 0 0) 0 [] rfl (World.ownsRow_nil _ _ _ _) a1 n1 c1 (L.se.l.flatMap strC) rfl (by rw [flat_len str_len, N1.out]) HSS.out (by have := HXX.out; unfold maxLen; omega) (by have := HXX.out; omega) (Nat.le_refl _) ?_; intro v4 W4 hown4 hg4; have hB4 : Below W.heap.size W W4 := (Below.refl _ W).grown hg4 (Nat.le_refl _) (fun k hk => by cases hk); rw [List.nil_append, Nat.zero_add] at hown4; have HO := Lib.hid hown4; have HB := Lib.hid hB4; clear hown4 hg4 hB4 l0 l1 l2 l3)
  rw [n1_eq] at HO
  go_wp2_with fail
  go_loopg [3, 4] n2 (fun g v i wr => ∃ k : Nat, k + g = n2 ∧ i = .int .i64 (k : Int) ∧ wr.ownsRow W.heap.size 9 1 v (n1 + k) ((L.n1 ++ (L.po.l.take k).map (·.1)).flatMap strC) ∧ Below W.heap.size W wr)
  case atStart => exact ⟨0, by omega, rfl, by rw [List.take_zero, List.map_nil, List.append_nil]; exact HO.out, HB.out⟩
  case round =>
    obtain ⟨k, hk, rfl, hO, hbw⟩ := hrel
    clear HO HB
    have HB := Lib.hid hbw
    have HO := Lib.hid hO
    clear hbw hO
    obtain ⟨l0, l1, l2, l3⟩ : wr.cell? ⟨gl, 0, none⟩ = some (.slice a1 n1 c1) ∧ wr.cell? ⟨gl, 1, none⟩ = some (.slice a2 n2 c2) ∧ wr.cell? ⟨gl, 2, none⟩ = some (.slice a3 n3 c3) ∧ wr.cell? ⟨gl, 3, none⟩ = some (.slice a4 n4 c4) := by
      have q := blk_keep HB.out HLY.out
      exact ⟨blk_cell q 0 _ rfl, blk_cell q 1 _ rfl, blk_cell q 2 _ rfl, blk_cell q 3 _ rfl⟩
    by_cases hlt : k < n2
    · obtain ⟨y, hy⟩ : ∃ y, L.po.l[k]? = some y := ⟨_, List.getElem?_eq_getElem (by rw [N2.out]; exact hlt)⟩
      rcases R2.out.below (below_on HBW.out HB.out) with hnil | ⟨xb, off, rfl, hc⟩
      · rw [hnil] at hy; simp at hy
      obtain ⟨z, hz⟩ : ∃ z, y.1 = z := ⟨_, rfl⟩
      have z0 := hc k _ hy 0 (.string z) (by rw [← hz]; rfl)
      rw [Nat.add_zero] at z0
      have HY := Lib.hid hy
      have HZ := Lib.hid hz
      have d1 : (0 : Int) ≤ k := by omega
      have d2 : (k : Int) < n2 := by omega
      have e1 : wrap64 ((k : Int) + 1) = (k : Int) + 1 := by have := HXX.out; unfold wrap64; omega
      have HK := Lib.hid hk
      have HOW := Lib.hid (own_below (below1 wr (Obj.cells #[.string z] 9)) HO.out)
      have HSR := Lib.hid (src_one (u := .string z) rfl (alloc1 wr (Obj.cells #[.string z] 9) (Below.refl _ _)))
      clear hc hy hk hz
      go_wp2_with (at_builtin; refine wpList_append_src rfl _ _ 34 rfl W.heap.size 9 i0 (.string ⟨#[]⟩) 1 16 Try.underlying34 HI.out.1 HI.out.2.1 HI.out.2.2.1 HI.out.2.2.2 rfl (by decide) _ (n1 + k) ((L.n1 ++ (L.po.l.take k).map (·.1)).flatMap strC) rfl HOW.out (some ⟨wr.heap.size, 0, none⟩) 1 1 [.string z] rfl rfl HSR.out (by have := HXX.out; have := HK.out; unfold maxLen; omega) (by have := HXX.out; have := HK.out; omega) (by have := HB.out.size; simp; omega) ?_; intro v5 W5 hown5 hg5)
      have hB7 : Below W.heap.size W W5 := (HB.out.alloc HB.out.size _).grown hg5 (by have := HB.out.size; simp; omega) (fun k hk => (HOW.out.lt _ hk).1)
      go_roundg (n2 - (k + 1))
      case rel => exact ⟨k + 1, by have := HK.out; omega, by go_num, by rw [nm_take HY.out, HZ.out]; exact hown5, hB7⟩
      case measure => have := HK.out; omega
    · have hkn : n2 = k := by omega
      subst hkn
      have hfull : L.po.l.take n2 = L.po.l := List.take_of_length_le (by rw [N2.out]; exact Nat.le_refl _)
      rw [hfull, n2_eq] at HO
      clear hfull
      obtain ⟨wq2, hwq⟩ : ∃ W, W = wr := ⟨_, rfl⟩
      rw [← hwq] at HO HB l0 l1 l2 l3 ⊢
      clear hwq
      go_wp2_with fail
      go_loopg [3, 5] n3 (fun g v i wr => ∃ k : Nat, k + g = n3 ∧ i = .int .i64 (k : Int) ∧ wr.ownsRow W.heap.size 9 1 v ((n1 + n2) + k) ((L.n2 ++ (L.sg.l.take k).map (·.1)).flatMap strC) ∧ Below W.heap.size W wr)
      case atStart => exact ⟨0, by omega, rfl, by rw [List.take_zero, List.map_nil, List.append_nil]; exact HO.out, HB.out⟩
      case round =>
        obtain ⟨k, hk, rfl, hO, hbw⟩ := hrel
        clear HO HB
        have HB := Lib.hid hbw
        have HO := Lib.hid hO
        clear hbw hO
        obtain ⟨l0, l1, l2, l3⟩ : wr.cell? ⟨gl, 0, none⟩ = some (.slice a1 n1 c1) ∧ wr.cell? ⟨gl, 1, none⟩ = some (.slice a2 n2 c2) ∧ wr.cell? ⟨gl, 2, none⟩ = some (.slice a3 n3 c3) ∧ wr.cell? ⟨gl, 3, none⟩ = some (.slice a4 n4 c4) := by
          have q := blk_keep HB.out HLY.out
          exact ⟨blk_cell q 0 _ rfl, blk_cell q 1 _ rfl, blk_cell q 2 _ rfl, blk_cell q 3 _ rfl⟩
        by_cases hlt : k < n3
        · obtain ⟨y, hy⟩ : ∃ y, L.sg.l[k]? = some y := ⟨_, List.getElem?_eq_getElem (by rw [N3.out]; exact hlt)⟩
          rcases R3.out.below (below_on HBW.out HB.out) with hnil | ⟨xb, off, rfl, hc⟩
          · rw [hnil] at hy; simp at hy
          obtain ⟨z, hz⟩ : ∃ z, y.1 = z := ⟨_, rfl⟩
          have z0 := hc k _ hy 0 (.string z) (by rw [← hz]; rfl)
          rw [Nat.add_zero] at z0
          have HY := Lib.hid hy
          have HZ := Lib.hid hz
          have d1 : (0 : Int) ≤ k := by omega
          have d2 : (k : Int) < n3 := by omega
          have e1 : wrap64 ((k : Int) + 1) = (k : Int) + 1 := by have := HXX.out; unfold wrap64; omega
          have HK := Lib.hid hk
          have HOW := Lib.hid (own_below (below1 wr (Obj.cells #[.string z] 9)) HO.out)
          have HSR := Lib.hid (src_one (u := .string z) rfl (alloc1 wr (Obj.cells #[.string z] 9) (Below.refl _ _)))
          clear hc hy hk hz
          go_wp2_with (at_builtin; refine wpList_append_src rfl _ _ 34 rfl W.heap.size 9 i0 (.string ⟨#[]⟩) 1 16 Try.underlying34 HI.out.1 HI.out.2.1 HI.out.2.2.1 HI.out.2.2.2 rfl (by decide) _ ((n1 + n2) + k) ((L.n2 ++ (L.sg.l.take k).map (·.1)).flatMap strC) rfl HOW.out (some ⟨wr.heap.size, 0, none⟩) 1 1 [.string z] rfl rfl HSR.out (by have := HXX.out; have := HK.out; unfold maxLen; omega) (by have := HXX.out; have := HK.out; omega) (by have := HB.out.size; simp; omega) ?_; intro v5 W5 hown5 hg5)
          have hB7 : Below W.heap.size W W5 := (HB.out.alloc HB.out.size _).grown hg5 (by have := HB.out.size; simp; omega) (fun k hk => (HOW.out.lt _ hk).1)
          go_roundg (n3 - (k + 1))
          case rel => exact ⟨k + 1, by have := HK.out; omega, by go_num, by rw [nm_take HY.out, HZ.out]; exact hown5, hB7⟩
          case measure => have := HK.out; omega
        · have hkn : n3 = k := by omega
          subst hkn
          have hfull : L.sg.l.take n3 = L.sg.l := List.take_of_length_le (by rw [N3.out]; exact Nat.le_refl _)
          rw [hfull, n3_eq] at HO
          clear hfull
          obtain ⟨wq3, hwq⟩ : ∃ W, W = wr := ⟨_, rfl⟩
          rw [← hwq] at HO HB l0 l1 l2 l3 ⊢
          clear hwq
          go_wp2_with fail
          go_loopg [3, 6] n4 (fun g v i wr => ∃ k : Nat, k + g = n4 ∧ i = .int .i64 (k : Int) ∧ wr.ownsRow W.heap.size 9 1 v ((n1 + n2 + n3) + k) ((L.n3 ++ (L.rt.l.take k).map (·.nm)).flatMap strC) ∧ Below W.heap.size W wr)
          case atStart => exact ⟨0, by omega, rfl, by rw [List.take_zero, List.map_nil, List.append_nil]; exact HO.out, HB.out⟩
          case round =>
            obtain ⟨k, hk, rfl, hO, hbw⟩ := hrel
            clear HO HB
            have HB := Lib.hid hbw
            have HO := Lib.hid hO
            clear hbw hO
            obtain ⟨l0, l1, l2, l3⟩ : wr.cell? ⟨gl, 0, none⟩ = some (.slice a1 n1 c1) ∧ wr.cell? ⟨gl, 1, none⟩ = some (.slice a2 n2 c2) ∧ wr.cell? ⟨gl, 2, none⟩ = some (.slice a3 n3 c3) ∧ wr.cell? ⟨gl, 3, none⟩ = some (.slice a4 n4 c4) := by
              have q := blk_keep HB.out HLY.out
              exact ⟨blk_cell q 0 _ rfl, blk_cell q 1 _ rfl, blk_cell q 2 _ rfl, blk_cell q 3 _ rfl⟩
            by_cases hlt : k < n4
            · obtain ⟨y, hy⟩ : ∃ y, L.rt.l[k]? = some y := ⟨_, List.getElem?_eq_getElem (by rw [N4.out]; exact hlt)⟩
              rcases R4.out.below (below_on HBW.out HB.out) with hnil | ⟨xb, off, rfl, hc⟩
              · rw [hnil] at hy; simp at hy
              obtain ⟨z, hz⟩ : ∃ z, y.nm = z := ⟨_, rfl⟩
              have z0 := hc k _ hy 0 (.string z) (by rw [← hz]; rfl)
              rw [Nat.add_zero] at z0
              have HY := Lib.hid hy
              have HZ := Lib.hid hz
              have d1 : (0 : Int) ≤ k := by omega
              have d2 : (k : Int) < n4 := by omega
              have e1 : wrap64 ((k : Int) + 1) = (k : Int) + 1 := by have := HXX.out; unfold wrap64; omega
              have HK := Lib.hid hk
              have HOW := Lib.hid (own_below (below1 wr (Obj.cells #[.string z] 9)) HO.out)
              have HSR := Lib.hid (src_one (u := .string z) rfl (alloc1 wr (Obj.cells #[.string z] 9) (Below.refl _ _)))
              clear hc hy hk hz
              go_wp2_with (at_builtin; refine wpList_append_src rfl _ _ 34 rfl W.heap.size 9 i0 (.string ⟨#[]⟩) 1 16 Try.underlying34 HI.out.1 HI.out.2.1 HI.out.2.2.1 HI.out.2.2.2 rfl (by decide) _ ((n1 + n2 + n3) + k) ((L.n3 ++ (L.rt.l.take k).map (·.nm)).flatMap strC) rfl HOW.out (some ⟨wr.heap.size, 0, none⟩) 1 1 [.string z] rfl rfl HSR.out (by have := HXX.out; have := HK.out; unfold maxLen; omega) (by have := HXX.out; have := HK.out; omega) (by have := HB.out.size; simp; omega) ?_; intro v5 W5 hown5 hg5)
              have hB7 : Below W.heap.size W W5 := (HB.out.alloc HB.out.size _).grown hg5 (by have := HB.out.size; simp; omega) (fun k hk => (HOW.out.lt _ hk).1)
              go_roundg (n4 - (k + 1))
              case rel => exact ⟨k + 1, by have := HK.out; omega, by go_num, by rw [nm_take HY.out, HZ.out]; exact hown5, hB7⟩
              case measure => have := HK.out; omega
            · have hkn : n4 = k := by omega
              subst hkn
              have hfull : L.rt.l.take n4 = L.rt.l := List.take_of_length_le (by rw [N4.out]; exact Nat.le_refl _)
              rw [hfull, all_eq] at HO
              clear hfull
              obtain ⟨wq4, hwq⟩ : ∃ W, W = wr := ⟨_, rfl⟩
              rw [← hwq] at HO HB l0 l1 l2 l3 ⊢
              clear hwq
              have hlen : L.all.length = n1 + n2 + n3 + n4 := all_len N1.out N2.out N3.out N4.out
              obtain ⟨a, c, rfl, hS⟩ := own_sl str_len hlen HO.out
              have HS := Lib.hid hS
              have HLN := Lib.hid hlen
              clear hS hlen
              go_wp2_with fail
              go_ret
              exact ⟨a, _, c, rfl, HLN.out.symm, HS.out, below_on HBW.out HB.out⟩
end Go.Proofs.Ytdkcpejlojdijaa
