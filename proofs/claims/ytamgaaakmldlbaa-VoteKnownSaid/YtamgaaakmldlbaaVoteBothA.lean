/-
  The walk of 'put' of chapter 12's statements.
-/
import Derived.Test.YtamgaaakmldlbaaVoteLawC
import Derived.Test.YtamgaaakmldlbaaVoteBothP
namespace Go.Proofs.Ytamgaaakmldlbaa
open Go.RowKit
attribute [local irreducible] VSt.put VSt.fin VSt.stop VSt.reset VSt.step

theorem CallsAt.drop {w : World} {b off : Nat} {l : List (Int × Int × Frm)} (h : CallsAt w (some ⟨b, off, none⟩) l) (m : Nat) : CallsAt w (some ⟨b, off + m * 6, none⟩) (l.drop m) := by
  rcases h with rfl | ⟨b', off', hab, hc⟩
  · left; simp
  · cases hab
    right
    refine ⟨b, off + m * 6, rfl, fun i c hi => ?_⟩
    rw [List.getElem?_drop] at hi
    have := hc (m + i) c hi
    rw [show off + (m + i) * 6 = off + m * 6 + i * 6 by omega] at this
    exact this
theorem frm_boxed (w : World) (F : Frm) : (w.alloc (Obj.cells #[Value.int IntKind.i64 F.c, Value.int IntKind.i64 F.e, Value.int IntKind.u64 F.p, Value.int IntKind.u32 F.q] 27)).heap[w.heap.size]? = some (Obj.cells #[Value.int IntKind.i64 F.c, Value.int IntKind.i64 F.e, Value.int IntKind.u64 F.p, Value.int IntKind.u32 F.q] 27) := heap_new' w _

set_option maxHeartbeats 4000000 in
theorem put_true (a : Option Addr) (n cap : Nat) (l : List (Int × Int × Frm)) (ch : Int) (F : Frm) (w : World) (hn : n ≤ l.length) (hnl : n ≤ 1000) (hl : CallsAt w a l) (hw : Was l 0 n ch F) :
    Calls Try.prog 20 #[.slice a n cap, .int .i64 ch, .agg #[.int .i64 F.c, .int .i64 F.e, .int .u64 F.p, .int .u32 F.q]] w fun e w' => e = .returned (.bool true) ∧ Below w.heap.size w w' := by
  obtain ⟨j, cj, _, hj, hjc, hj1, hj2, hj3⟩ := hw
  have b0 := below1 w (Obj.cells #[Value.int IntKind.i64 F.c, Value.int IntKind.i64 F.e, Value.int IntKind.u64 F.p, Value.int IntKind.u32 F.q] 27)
  have kF := frm_boxed w F
  have HJ := Lib.hid hjc
  clear hjc
  go_enter Try.func20, Try.ntmps20
  go_wp2_with fail
  obtain ⟨W, hW⟩ : ∃ W, W = w.alloc (Obj.cells #[Value.int IntKind.i64 F.c, Value.int IntKind.i64 F.e, Value.int IntKind.u64 F.p, Value.int IntKind.u32 F.q] 27) := ⟨_, rfl⟩
  rw [← hW] at b0 kF ⊢
  clear hW
  have hlW := hl.below b0
  clear hl
  go_loopw [7] (fun i wr => ∃ k : Nat, k ≤ j ∧ i = .int .i64 k ∧ Below W.heap.size W wr) (fun i _ => j + 1 - (intOf i).toNat)
  case atStart => exact ⟨0, by omega, rfl, Below.refl _ _⟩
  case round =>
    obtain ⟨k, hk, rfl, hB⟩ := hrel
    have kF := blk_keep hB kF
    rcases hlW.below hB with hnil | ⟨b, off, rfl, hcells⟩
    · rw [hnil] at hn; simp at hn; omega
    obtain ⟨c, hc⟩ : ∃ c, l[k]? = some c := ⟨_, List.getElem?_eq_getElem (by omega)⟩
    have hjk : k = j → c = cj := fun e => by have h := HJ.out; rw [← e, hc] at h; exact Option.some.inj h
    obtain ⟨z0, z1, z2, z3, z4, z5⟩ := hcells k c hc
    have x1 := World.block_lt_of_cell? _ _ z0
    have d1 : (0 : Int) ≤ k := by omega
    have d2 : (k : Int) < n := by omega
    have c1 : ∀ w', Below wr.heap.size wr w' → Calls Try.prog 10 #[.int .i64 c.1, .int .i64 6] w' fun e w'' => e = .returned (.int .i64 (c.1 % 6)) ∧ Below wr.heap.size wr w'' :=
      fun w' hw' => (pick6_any c.1 w').mono (fun e w9 ⟨h1, h2⟩ => ⟨h1, h2 ▸ hw'⟩)
    have hq := eql_frm c.2.2 F
    have hgd := frm_guard
    clear hcells
    by_cases hA : c.1 % 6 < 3
    · by_cases hB : c.2.1 = ch
      · by_cases hC : c.2.2 = F
        · rw [decide_eq_true hC] at hq
          have HC := Lib.hid hC
          have hdA : decide (c.1 % 6 < 3) = true := decide_eq_true hA
          have hdB : (c.2.1 == ch) = true := by simpa using hB
          clear hC hB hjk hc
          go_wp2_with fail
          refine wp_region_calm (by kernel_rfl) ?_ ?_
          · kernel_rfl
          repeat
            (with_reducible apply wpQuiet_step
             intro K hK
             go_simp
             first
               | (refine hK _ ?_; clear hK K)
               | (apply Exists.intro
                  refine ⟨fun w' hw' => ?_, hK _ ?_⟩
                  ·
                    (first
                     | with_reducible exact c1 _ hw'
                     | (have e0 := blk_cell (blk_keep hw' kF) 0 _ rfl
                        have e1 := blk_cell (blk_keep hw' kF) 1 _ rfl
                        have e2 := blk_cell (blk_keep hw' kF) 2 _ rfl
                        have e3 := blk_cell (blk_keep hw' kF) 3 _ rfl
                        have y0 := cell_later hw' z0
                        have y1 := cell_later hw' z1
                        have y2 := cell_later hw' z2
                        have y3 := cell_later hw' z3
                        have y4 := cell_later hw' z4
                        have y5 := cell_later hw' z5
                        go_simp
                        first | done | exact rfl | exact ⟨rfl, rfl⟩ | exact c1 _ hw'))
                  clear hK K))
          refine wpQuiet_nil ?_
          intro w5 hw5
          have hB5 := below_on hB hw5
          clear c1 z0 z1 z2 z3 z4 z5
          go_wp2_with fail
          go_ret
          exact ⟨rfl, below_on b0 hB5⟩
        · rw [decide_eq_false hC] at hq
          have hkj : k ≠ j := fun e => hC (by rw [hjk e]; exact hj3)
          have hdA : decide (c.1 % 6 < 3) = true := decide_eq_true hA
          have hdB : (c.2.1 == ch) = true := by simpa using hB
          clear hC hB hjk hc
          go_wp2_with fail
          refine wp_region_calm (by kernel_rfl) ?_ ?_
          · kernel_rfl
          repeat
            (with_reducible apply wpQuiet_step
             intro K hK
             go_simp
             first
               | (refine hK _ ?_; clear hK K)
               | (apply Exists.intro
                  refine ⟨fun w' hw' => ?_, hK _ ?_⟩
                  ·
                    (first
                     | with_reducible exact c1 _ hw'
                     | (have e0 := blk_cell (blk_keep hw' kF) 0 _ rfl
                        have e1 := blk_cell (blk_keep hw' kF) 1 _ rfl
                        have e2 := blk_cell (blk_keep hw' kF) 2 _ rfl
                        have e3 := blk_cell (blk_keep hw' kF) 3 _ rfl
                        have y0 := cell_later hw' z0
                        have y1 := cell_later hw' z1
                        have y2 := cell_later hw' z2
                        have y3 := cell_later hw' z3
                        have y4 := cell_later hw' z4
                        have y5 := cell_later hw' z5
                        go_simp
                        first | done | exact rfl | exact ⟨rfl, rfl⟩ | exact c1 _ hw'))
                  clear hK K))
          refine wpQuiet_nil ?_
          intro w5 hw5
          have hB5 := below_on hB hw5
          clear c1 z0 z1 z2 z3 z4 z5
          go_wp2_with fail
          go_roundw
          case rel => exact ⟨k + 1, by omega, by go_num, hB5⟩
          case measure => simp [intOf]; omega
      · have hkj : k ≠ j := fun e => hB (by rw [hjk e]; exact hj2)
        have hdA : decide (c.1 % 6 < 3) = true := decide_eq_true hA
        have hdB : (c.2.1 == ch) = false := by simpa using hB
        clear hB hjk hc
        go_wp2_with fail
        refine wp_region_calm (by kernel_rfl) ?_ ?_
        · kernel_rfl
        repeat
          (with_reducible apply wpQuiet_step
           intro K hK
           go_simp
           first
             | (refine hK _ ?_; clear hK K)
             | (apply Exists.intro
                refine ⟨fun w' hw' => ?_, hK _ ?_⟩
                ·
                  (first
                   | with_reducible exact c1 _ hw'
                   | (have e0 := blk_cell (blk_keep hw' kF) 0 _ rfl
                      have e1 := blk_cell (blk_keep hw' kF) 1 _ rfl
                      have e2 := blk_cell (blk_keep hw' kF) 2 _ rfl
                      have e3 := blk_cell (blk_keep hw' kF) 3 _ rfl
                      have y0 := cell_later hw' z0
                      have y1 := cell_later hw' z1
                      have y2 := cell_later hw' z2
                      have y3 := cell_later hw' z3
                      have y4 := cell_later hw' z4
                      have y5 := cell_later hw' z5
                      go_simp
                      first | done | exact rfl | exact ⟨rfl, rfl⟩ | exact c1 _ hw'))
                clear hK K))
        refine wpQuiet_nil ?_
        intro w5 hw5
        have hB5 := below_on hB hw5
        clear c1 z0 z1 z2 z3 z4 z5
        go_wp2_with fail
        go_roundw
        case rel => exact ⟨k + 1, by omega, by go_num, hB5⟩
        case measure => simp [intOf]; omega
    · have hkj : k ≠ j := fun e => hA (by rw [hjk e]; exact hj1)
      have hdA : decide (c.1 % 6 < 3) = false := decide_eq_false hA
      clear hjk hc
      go_wp2_with fail
      refine wp_region_calm (by kernel_rfl) ?_ ?_
      · kernel_rfl
      repeat
        (with_reducible apply wpQuiet_step
         intro K hK
         go_simp
         first
           | (refine hK _ ?_; clear hK K)
           | (apply Exists.intro
              refine ⟨fun w' hw' => ?_, hK _ ?_⟩
              ·
                (first
                 | with_reducible exact c1 _ hw'
                 | (have e0 := blk_cell (blk_keep hw' kF) 0 _ rfl
                    have e1 := blk_cell (blk_keep hw' kF) 1 _ rfl
                    have e2 := blk_cell (blk_keep hw' kF) 2 _ rfl
                    have e3 := blk_cell (blk_keep hw' kF) 3 _ rfl
                    have y0 := cell_later hw' z0
                    have y1 := cell_later hw' z1
                    have y2 := cell_later hw' z2
                    have y3 := cell_later hw' z3
                    have y4 := cell_later hw' z4
                    have y5 := cell_later hw' z5
                    go_simp
                    first | done | exact rfl | exact ⟨rfl, rfl⟩ | exact c1 _ hw'))
              clear hK K))
      refine wpQuiet_nil ?_
      intro w5 hw5
      have hB5 := below_on hB hw5
      clear c1 z0 z1 z2 z3 z4 z5
      go_wp2_with fail
      go_roundw
      case rel => exact ⟨k + 1, by omega, by go_num, hB5⟩
      case measure => simp [intOf]; omega
end Go.Proofs.Ytamgaaakmldlbaa
