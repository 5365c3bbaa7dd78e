/-
  SwitchoverKnown: the closed statement.
-/
import Derived.Test.YtoedipajcmmhjaaSwN
namespace Go.Proofs.Ytoedipajcmmhjaa
open Go.RowKit
theorem name_callsS {P : Program} {f : Nat} {xs : Array Value} {w : World} {R : Ending → World → Prop} (h : ∀ W, W = w → Calls P f xs W R) : Calls P f xs w R := h w rfl
theorem name_worldS {P : Program} {ops : Array Oper} {Q : Exit → Act → World → Prop} {rest : List Oper} {a : Act} {w : World} (h : ∀ W, W = w → wpList P ops Q rest a W) : wpList P ops Q rest a w := h w rfl
theorem below_eq {w w1 w2 : World} (h : Below w.heap.size w w1) (e : w2 = w1) : Below w.heap.size w w2 := e ▸ h
theorem cells_eq {w1 w2 : World} {g : Nat} {C : Array Value} {t : TypeId} {fr : Nat × Nat} (e : w2 = w1) (h : w1.heap[g]? = some (.cells C t fr)) : w2.heap[g]? = some (.cells C t fr) := e ▸ h
theorem steps_len : steps.length = 17 := rfl
theorem all_len : (firsts 6 ++ rests).length = 30 := rfl
theorem fences_lit (W : World) (g : Nat) (c : Nat) (h : StpsAt W (some ⟨g, 0, none⟩) steps) : Calls Try.prog 3 #[.slice (some ⟨g, 0, none⟩) 17 c, .int .u8 2, .int .u8 0] W fun e w' => e = .returned (.bool true) ∧ Below W.heap.size W w' :=
  fences_any (some ⟨g, 0, none⟩) 17 c steps 2 0 W (by omega) (by omega) steps_len (by unfold maxLen; omega) h
theorem firsts_next (j : Nat) : clCells (firsts (j + 1)) = clCells (firsts j) ++ clCells [⟨0, j, 0, 0⟩] := clCells_append _ _
theorem firsts_none : clCells (firsts 0) = [] := rfl
theorem one_cells (j : Nat) : (#[.int .u8 0, .int .i64 (j : Int), .int .i64 0, .int .i64 0] : Array Value).toList = clCells [⟨0, j, 0, 0⟩] := rfl
theorem one_clen (j : Nat) : (clCells [⟨0, (j : Int), 0, 0⟩]).length = 1 * 4 := rfl
def restC : List Value := [.int .u8 2, .int .i64 0, .int .i64 0, .int .i64 9, .int .u8 2, .int .i64 0, .int .i64 1099511627777, .int .i64 9, .int .u8 2, .int .i64 0, .int .i64 1, .int .i64 (-1), .int .u8 3, .int .i64 0, .int .i64 0, .int .i64 0, .int .u8 2, .int .i64 0, .int .i64 2, .int .i64 20, .int .u8 0, .int .i64 14, .int .i64 0, .int .i64 0, .int .u8 0, .int .i64 15, .int .i64 0, .int .i64 0, .int .u8 0, .int .i64 16, .int .i64 0, .int .i64 0, .int .u8 0, .int .i64 18, .int .i64 0, .int .i64 0, .int .u8 2, .int .i64 0, .int .i64 2, .int .i64 24, .int .u8 2, .int .i64 0, .int .i64 1, .int .i64 40, .int .u8 4, .int .i64 2, .int .i64 0, .int .i64 0, .int .u8 4, .int .i64 3, .int .i64 0, .int .i64 0, .int .u8 2, .int .i64 0, .int .i64 2, .int .i64 50, .int .u8 4, .int .i64 9, .int .i64 0, .int .i64 0, .int .u8 2, .int .i64 0, .int .i64 8, .int .i64 50, .int .u8 2, .int .i64 0, .int .i64 9, .int .i64 50, .int .u8 4, .int .i64 1, .int .i64 0, .int .i64 0, .int .u8 4, .int .i64 1099511627777, .int .i64 0, .int .i64 0, .int .u8 3, .int .i64 0, .int .i64 0, .int .i64 0, .int .u8 2, .int .i64 0, .int .i64 1099511627776, .int .i64 1099511627776, .int .u8 0, .int .i64 (-1), .int .i64 0, .int .i64 0, .int .u8 4, .int .i64 1099511627776, .int .i64 0, .int .i64 0, .int .u8 0, .int .i64 4611686018427387904, .int .i64 0, .int .i64 0]
theorem rests_cells : restC = clCells rests := rfl
def stepC : List Value := [.int .u8 5, .int .u8 0, .int .u8 0, .int .u8 0, .int .u8 5, .int .u8 1, .int .u8 2, .int .u8 0, .int .u8 4, .int .u8 0, .int .u8 5, .int .u8 0, .int .u8 0, .int .u8 0, .int .u8 0, .int .u8 0, .int .u8 0, .int .u8 0, .int .u8 0, .int .u8 0, .int .u8 0, .int .u8 0, .int .u8 0, .int .u8 0, .int .u8 0, .int .u8 0, .int .u8 0, .int .u8 0, .int .u8 0, .int .u8 0, .int .u8 5, .int .u8 1, .int .u8 2, .int .u8 0]
theorem steps_cells : stepC = stpCells steps := rfl
attribute [local irreducible] steps rests firsts clCells stpCells
set_option maxRecDepth 100000 in
set_option maxHeartbeats 20000000 in
theorem known_any (w : World) : Calls Try.prog 4 #[] w fun e w' => e = .returned (.bool true) ∧ Below w.heap.size w w' := by
  obtain ⟨i0, hi, hz0, hz1, hz2⟩ := info_parts info_cl
  have HI := Lib.hid (And.intro hi (And.intro hz0 (And.intro hz1 hz2)))
  clear hi hz0 hz1 hz2
  go_enter Try.func4, Try.ntmps4
  go_wp2_with fail
  refine (nil_tick 1 _).mono ?_
  rintro e w1 ⟨rfl, hb1⟩
  have B1 := Lib.hid (hb1)
  clear hb1
  go_wp2_with fail
  refine (nil_granted 1 0 _).mono ?_
  rintro e w2 ⟨rfl, hb2⟩
  have B2 := Lib.hid (below_on B1.out hb2)
  clear hb2
  go_wp2_with fail
  refine (nil_refused _).mono ?_
  rintro e w3 ⟨rfl, hb3⟩
  have B3 := Lib.hid (below_on B2.out hb3)
  clear hb3
  go_wp2_with fail
  refine (nil_beat 1 _).mono ?_
  rintro e w4 ⟨rfl, hb4⟩
  have B4 := Lib.hid (below_on B3.out hb4)
  clear hb4
  go_wp2_with fail
  refine (nil_role _).mono ?_
  rintro e w5 ⟨rfl, hb5⟩
  have B5 := Lib.hid (below_on B4.out hb5)
  clear hb5
  go_wp2_with fail
  refine (nil_epoch _).mono ?_
  rintro e w6 ⟨rfl, hb6⟩
  have B6 := Lib.hid (below_on B5.out hb6)
  clear hb6
  go_wp2_with fail
  refine (nil_known _).mono ?_
  rintro e w7 ⟨rfl, hb7⟩
  have B7 := Lib.hid (below_on B6.out hb7)
  clear hb7
  go_wp2_with fail
  refine (nil_holds 0 _).mono ?_
  rintro e w8 ⟨rfl, hb8⟩
  have B8 := Lib.hid (below_on B7.out hb8)
  clear hb8
  go_wp2_with fail
  go_loopg [3, 4] 6 (fun m s i wq => ∃ j : Nat, j + m = 6 ∧ i = .int .i64 (j : Int) ∧ wq.ownsRow w8.heap.size 46 4 s j (clCells (firsts j)) ∧ Below w8.heap.size w8 wq)
  case atStart => exact ⟨0, by omega, rfl, by rw [firsts_none]; exact World.ownsRow_nil _ _ _ _, Below.refl _ _⟩
  case round =>
    obtain ⟨j, hj, rfl, hO, hB⟩ := hrel
    have hsz := hB.size
    by_cases hj6 : j < 6
    · have HOW := Lib.hid (own_below (below1 wr (Obj.cells #[.int .u8 0, .int .i64 (j : Int), .int .i64 0, .int .i64 0] 46)) hO)
      have HSR := Lib.hid (src_lit 1 (clCells_one [⟨0, (j : Int), 0, 0⟩]) (one_cells j) (heap_new26 wr (Obj.cells #[.int .u8 0, .int .i64 (j : Int), .int .i64 0, .int .i64 0] 46)))
      have HJ : (j : Int) < 6 := by omega
      have HBB := Lib.hid hB
      clear hO hB
      go_wp2_with (at_builtin; refine wpList_append_src rfl _ _ 44 rfl w8.heap.size 46 i0 (.agg #[.int .u8 0, .int .i64 0, .int .i64 0, .int .i64 0]) 4 32 Try.underlying44 HI.out.1 HI.out.2.1 HI.out.2.2.1 HI.out.2.2.2 rfl (by decide) _ j (clCells (firsts j)) rfl HOW.out (some ⟨wr.heap.size, 0, none⟩) 1 1 (clCells [⟨0, (j : Int), 0, 0⟩]) rfl (one_clen j) HSR.out (by unfold maxLen; omega) (by omega) (by simp; omega) ?_; intro v4 W4 hown4 hg4)
      have hB7 : Below w8.heap.size w8 W4 := (HBB.out.alloc hsz _).grown hg4 (by simp; omega) (fun k hk => (HOW.out.lt _ hk).1)
      go_roundg (6 - (j + 1))
      case rel => exact ⟨j + 1, by omega, by go_num, by rw [firsts_next]; exact hown4, hB7⟩
      case measure => omega
    · obtain rfl : j = 6 := by omega
      have HO := Lib.hid hO
      have HBB := Lib.hid hB
      clear hO hB
      go_wp2_with (at_builtin; refine name_worldS ?_; intro W hW; have kW := cells_eq hW (heap_new26 wr _); have HBW := Lib.hid (below_eq (below1 wr _) hW); have HSR := Lib.hid (src_lit 24 (clCells_one rests) (Eq.trans (by unfold restC; rfl) rests_cells) kW); have HOW := Lib.hid (own_below HBW.out HO.out); clear hW kW; refine wpList_append_src rfl _ _ 44 rfl w8.heap.size 46 i0 (.agg #[.int .u8 0, .int .i64 0, .int .i64 0, .int .i64 0]) 4 32 Try.underlying44 HI.out.1 HI.out.2.1 HI.out.2.2.1 HI.out.2.2.2 rfl (by decide) _ 6 (clCells (firsts 6)) rfl HOW.out (some ⟨wr.heap.size, 0, none⟩) 24 24 (clCells rests) rfl (by rw [clCells_length, rests_len]) HSR.out (by unfold maxLen; omega) (by omega) (by have := HBW.out.size; omega) ?_; intro v5 W5 hown5 hg5; rw [← clCells_append] at hown5; obtain ⟨a5, c5, rfl, hC5⟩ := own_cls calls_ok all_len hown5; have HC5 := Lib.hid hC5; have HB5 := Lib.hid ((HBB.out.trans (HBW.out.mono hsz)).grown hg5 (by have := HBW.out.size; omega) (fun k hk => (HOW.out.lt _ hk).1)); clear hown5 hg5 hC5 HSR HOW HBW)
      refine (plays_any 0 a5 30 c5 (firsts 6 ++ rests) _ all_len (by unfold maxLen; omega) HC5.out).mono ?_
      rintro e x6 ⟨rfl, hb6⟩
      have HC6 := Lib.hid (HC5.out.below hb6)
      have HB6 := Lib.hid (HB5.out.trans (hb6.mono HB5.out.size))
      clear hb6
      go_wp2_with fail
      refine (plays_any 1 a5 30 c5 (firsts 6 ++ rests) _ all_len (by unfold maxLen; omega) HC6.out).mono ?_
      rintro e x7 ⟨rfl, hb7⟩
      have HC7 := Lib.hid (HC6.out.below hb7)
      have HB7 := Lib.hid (HB6.out.trans (hb7.mono HB6.out.size))
      clear hb7
      go_wp2_with fail
      refine (plays_any 2 a5 30 c5 (firsts 6 ++ rests) _ all_len (by unfold maxLen; omega) HC7.out).mono ?_
      rintro e x8 ⟨rfl, hb8⟩
      have HC8 := Lib.hid (HC7.out.below hb8)
      have HB8 := Lib.hid (HB7.out.trans (hb8.mono HB7.out.size))
      clear hb8
      go_wp2_with fail
      refine (plays_any (-1) a5 30 c5 (firsts 6 ++ rests) _ all_len (by unfold maxLen; omega) HC8.out).mono ?_
      rintro e x9 ⟨rfl, hb9⟩
      have HC9 := Lib.hid (HC8.out.below hb9)
      have HB9 := Lib.hid (HB8.out.trans (hb9.mono HB8.out.size))
      clear hb9
      go_wp2_with fail
      refine name_callsS ?_
      intro W9 hW9
      have kW := cells_eq hW9 (heap_new26 x9 _)
      have hbW := below_eq (below1 x9 _) hW9
      have HSL := Lib.hid (steps_lit steps steps_ok (Eq.trans (by unfold stepC; rfl) steps_cells) kW)
      have HB10 := Lib.hid (HB9.out.trans (hbW.mono HB9.out.size))
      clear hW9 kW hbW
      refine (fences_lit W9 _ _ HSL.out).mono ?_
      rintro e w11 ⟨rfl, hb11⟩
      have HB11 := Lib.hid (HB10.out.trans (hb11.mono HB10.out.size))
      clear hb11
      go_wp2_with fail
      refine (works_any _).mono ?_
      rintro e w12 ⟨rfl, hb12⟩
      have HB12 := Lib.hid (HB11.out.trans (hb12.mono HB11.out.size))
      clear hb12
      go_wp2_with fail
      go_ret
      exact ⟨rfl, below_on B8.out HB12.out⟩
theorem walk_SwitchoverKnown (w : World) : Calls Try.prog 4 #[] w fun e w' => e = .returned (.bool true) ∧ Below w.heap.size w w' := known_any w
end Go.Proofs.Ytoedipajcmmhjaa
