/-
  Walks of package inputs and of the document's answer for chapter 9: Merge.
-/
import Derived.Test.YtbbacmlcimgjbaaInMerge
import Derived.Lib.SmallJoins
namespace Go.Proofs.Ytbbacmlcimgjbaa
open Go.RowKit

/-- what two rows of commands make -/
def both (la lb : List (Nat × Int)) : List (Nat × Int) := if la = lb then la else []
theorem or64 (a b : Nat) (ha : a < 18446744073709551616) (hb : b < 18446744073709551616) : bits .or .u64 (a : Int) (b : Int) = ((a ||| b : Nat) : Int) := u64_or_nat a b ha hb
theorem and32 (a b : Nat) (ha : a < 4294967296) (hb : b < 4294967296) : bits .and .u32 (a : Int) (b : Int) = ((a &&& b : Nat) : Int) := u32_and_nat a b ha hb

attribute [local irreducible] both cmdCells
set_option maxHeartbeats 1000000 in
theorem merge_any (o1 n1 r1 o2 n2 r2 : Nat) (a b : Option Addr) (la lb : List (Nat × Int)) (n m ca cb : Nat) (w : World) (hn : la.length = n) (hm : lb.length = m) (hnl : n ≤ 1000) (hml : m ≤ 1000) (ha : CmdsAt w a la) (hb : CmdsAt w b lb)
    (hca : a = none → ca = 0) (ho1 : o1 < 18446744073709551616) (ho2 : o2 < 18446744073709551616) (hn1 : n1 < 4294967296) (hn2 : n2 < 4294967296) (hr1 : r1 < 4294967296) (hr2 : r2 < 4294967296) :
    Calls Try.prog 29 #[.agg #[.int .u64 (o1 : Int), .int .u32 (n1 : Int), .int .u32 (r1 : Int), .slice a n ca], .agg #[.int .u64 (o2 : Int), .int .u32 (n2 : Int), .int .u32 (r2 : Int), .slice b m cb]] w
      fun e w' => ∃ a' c', e = .returned (.agg #[.int .u64 (o1 ||| o2 : Nat), .int .u32 (n1 &&& n2 : Nat), .int .u32 (r1 &&& r2 : Nat), .slice a' (both la lb).length c']) ∧ (a' = none → c' = 0) ∧ w'.ownsRow w.heap.size 70 2 (.slice a' (both la lb).length c') (both la lb).length (cmdCells (both la lb)) ∧ Below w.heap.size w w' := by
  have HN := Lib.hid hn
  have HM := Lib.hid hm
  have HO := Lib.hid (or64 o1 o2 ho1 ho2)
  have HA := Lib.hid (and32 n1 n2 hn1 hn2)
  have HR := Lib.hid (and32 r1 r2 hr1 hr2)
  clear hn hm ho1 ho2 hn1 hn2 hr1 hr2
  go_enter Try.func29, Try.ntmps29
  go_wp2_with fail
  refine (alike_any a b la lb n m ca cb _ HN.out HM.out hnl hml (ha.below (below4 _ _ _ _ _)) (hb.below (below4 _ _ _ _ _))).mono ?_
  rintro e w1 ⟨rfl, hb1⟩
  obtain ⟨k0, k1, k2, k3⟩ := alloc4 _ _ _ _ _ hb1
  have hB1 := below_on (below4 _ _ _ _ _) hb1
  have hs1 : w.heap.size + 4 ≤ w1.heap.size := by have := hb1.size; simp at this; omega
  clear hb1
  rw [HO.out, HA.out, HR.out] at k3
  by_cases hlab : la = lb
  · have hd : decide (la = lb) = true := decide_eq_true hlab
    have HBo : Hid (both la lb = la) := Lib.hid (by unfold both; rw [if_pos hlab])
    rw [hd]
    have e03 := blk_cell k0 3 _ rfl
    go_wp2_with fail
    refine (clone_any a la n ca _ HN.out hnl hca (ha.below hB1)).mono ?_
    rintro e w2 ⟨a', c', rfl, hc', hown, hb2⟩
    have k2 := blk_keep hb2 k2
    have k3 := blk_keep hb2 k3
    have hB2 := below_on hB1 hb2
    have e20 := blk_cell k2 0 _ rfl
    have e21 := blk_cell k2 1 _ rfl
    have e22 := blk_cell k2 2 _ rfl
    have e23 := blk_cell k2 3 _ rfl
    have e30 := blk_cell k3 0 _ rfl
    have e31 := blk_cell k3 1 _ rfl
    have e32 := blk_cell k3 2 _ rfl
    have e33 := blk_cell k3 3 _ rfl
    have f2 := blk_free k2
    have f3 := blk_free k3
    clear k0 k1 k2 k3 hb2 e03
    go_wp2_with fail
    have hown2 := ownsRow_setCell_below (ownsRow_setCell_below (ownsRow_setCell_below (ownsRow_setCell_below (ownsRow_setCell_below hown (a := ⟨w.heap.size + 1 + 1 + 1, 3, none⟩) (by dsimp only; omega) (.slice a' n c'))
      (a := ⟨w.heap.size + 1 + 1, 0, none⟩) (by dsimp only; omega) (.int .u64 (o1 ||| o2 : Nat))) (a := ⟨w.heap.size + 1 + 1, 1, none⟩) (by dsimp only; omega) (.int .u32 (n1 &&& n2 : Nat)))
      (a := ⟨w.heap.size + 1 + 1, 2, none⟩) (by dsimp only; omega) (.int .u32 (r1 &&& r2 : Nat))) (a := ⟨w.heap.size + 1 + 1, 3, none⟩) (by dsimp only; omega) (.slice a' n c')
    have hB3 := ((((hB2.setCell (p := ⟨w.heap.size + 1 + 1 + 1, 3, none⟩) (by dsimp only; omega) (.slice a' n c')).setCell
      (p := ⟨w.heap.size + 1 + 1, 0, none⟩) (by dsimp only; omega) (.int .u64 (o1 ||| o2 : Nat))).setCell (p := ⟨w.heap.size + 1 + 1, 1, none⟩) (by dsimp only; omega) (.int .u32 (n1 &&& n2 : Nat))).setCell
      (p := ⟨w.heap.size + 1 + 1, 2, none⟩) (by dsimp only; omega) (.int .u32 (r1 &&& r2 : Nat))).setCell (p := ⟨w.heap.size + 1 + 1, 3, none⟩) (by dsimp only; omega) (.slice a' n c')
    refine bodyPost_ret (v := .agg #[.int .u64 (o1 ||| o2 : Nat), .int .u32 (n1 &&& n2 : Nat), .int .u32 (r1 &&& r2 : Nat), .slice a' n c']) (by simp [results, Try.results29, go_sem, e20, e21, e22, e23]) rfl ⟨a', c', ?_, hc', ?_, hB3⟩
    · rw [HBo.out, HN.out]
    · rw [HBo.out, HN.out]; exact Joins.ownsRow_le hown2 hB1.size
  · have hd : decide (la = lb) = false := decide_eq_false hlab
    have HBo : Hid (both la lb = []) := Lib.hid (by unfold both; rw [if_neg hlab])
    rw [hd]
    have e20 := blk_cell k2 0 _ rfl
    have e21 := blk_cell k2 1 _ rfl
    have e22 := blk_cell k2 2 _ rfl
    have e23 := blk_cell k2 3 _ rfl
    have e30 := blk_cell k3 0 _ rfl
    have e31 := blk_cell k3 1 _ rfl
    have e32 := blk_cell k3 2 _ rfl
    have e33 := blk_cell k3 3 _ rfl
    have f2 := blk_free k2
    clear k0 k1 k2 k3
    go_wp2_with fail
    have hB3 := (((hB1.setCell (p := ⟨w.heap.size + 1 + 1, 0, none⟩) (by dsimp only; omega) (.int .u64 (o1 ||| o2 : Nat))).setCell (p := ⟨w.heap.size + 1 + 1, 1, none⟩) (by dsimp only; omega) (.int .u32 (n1 &&& n2 : Nat))).setCell
      (p := ⟨w.heap.size + 1 + 1, 2, none⟩) (by dsimp only; omega) (.int .u32 (r1 &&& r2 : Nat))).setCell (p := ⟨w.heap.size + 1 + 1, 3, none⟩) (by dsimp only; omega) (.slice none 0 0)
    refine bodyPost_ret (v := .agg #[.int .u64 (o1 ||| o2 : Nat), .int .u32 (n1 &&& n2 : Nat), .int .u32 (r1 &&& r2 : Nat), .slice none 0 0]) (by simp [results, Try.results29, go_sem, e20, e21, e22, e23]) rfl ⟨none, 0, ?_, fun _ => rfl, ?_, hB3⟩
    · rw [HBo.out]; rfl
    · rw [HBo.out]; unfold cmdCells; exact World.ownsRow_nil _ _ _ _
end Go.Proofs.Ytbbacmlcimgjbaa
