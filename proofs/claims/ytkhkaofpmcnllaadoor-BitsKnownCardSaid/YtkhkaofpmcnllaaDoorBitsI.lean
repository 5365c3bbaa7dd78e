/-
  The iterator over a set's numbers: its contract; slices.AppendSeq and slices.Collect over it; bits.List.
-/
import Derived.RangeFuncNested
import Derived.RangeFuncBound
import Derived.RangeFuncCalls
import Derived.RangeFuncLeaves
import Derived.RangeFuncBox
import Derived.Shelf.Abstract
import Derived.Shelf.RegionOpen
import Derived.WalkKit
import Derived.OwnWalkIn
import Derived.TacticsInMore
import Derived.LoopNIn
import Derived.LoopIn
import Derived.Maps.AppendAt
import Derived.Test.YtkhkaofpmcnllaaDoorBitsL
namespace Go.Proofs.YtkhkaofpmcnllaaDoor
open Go.RowKit Go.Shelf
attribute [local go_sem] Oper.semAt_some
attribute [local irreducible] pw hasBit withBit woBit mems ofN withI anyN anyAt anyR

/-- the numbers that are in a set -/
abbrev Mem (x : Nat) := { k : Nat // k < 64 ∧ hasBit x k = true }
def encM {x : Nat} (m : Mem x) : Value := .int .i64 (m.1 : Int)
def memL (x k : Nat) : List (Mem x) := (List.range k).filterMap fun i => if h : i < 64 ∧ hasBit x i = true then some ⟨i, h⟩ else none
theorem memL_zero (x : Nat) : memL x 0 = [] := rfl
theorem memL_yes {x k : Nat} (h : k < 64 ∧ hasBit x k = true) : memL x (k + 1) = memL x k ++ [⟨k, h⟩] := by
  unfold memL
  rw [List.range_succ, List.filterMap_append]
  simp [h]
theorem memL_no {x k : Nat} (h : hasBit x k = false) : memL x (k + 1) = memL x k := by
  unfold memL
  rw [List.range_succ, List.filterMap_append]
  simp [h]
theorem memL_len (x k : Nat) : (memL x k).length ≤ k := by
  have := List.length_filterMap_le (fun i => if h : i < 64 ∧ hasBit x i = true then some (⟨i, h⟩ : Mem x) else none) (List.range k)
  simpa [memL] using this
theorem memL_val (x k : Nat) (hk : k ≤ 64) : (memL x k).map (fun m => m.1) = mems x k := by
  induction k with
  | zero => rw [memL_zero, mems_zero]; rfl
  | succ k ih =>
    have := ih (by omega)
    cases h : hasBit x k with
    | false => rw [memL_no h, mems_no h, this]
    | true => rw [memL_yes ⟨by omega, h⟩, mems_yes h, List.map_append, this]; rfl
theorem memL_vals (x : Nat) : (memL x 64).map encM = natVals (mems x 64) := by
  rw [← memL_val x 64 (by omega), natVals, List.map_map]; rfl
theorem memL_size (x : Nat) : (memL x 64).length = (mems x 64).length := by
  rw [← memL_val x 64 (by omega), List.length_map]

theorem own_base {w : World} {b b' : Nat} {e : TypeId} {sz : Nat} {v : Value} {n : Nat} {xs : List Value} (hb : b ≤ b') (h : w.ownsRow b' e sz v n xs) : w.ownsRow b e sz v n xs :=
  ⟨h.1, h.2.imp id fun ⟨g, cap, cur, h1, h2, h3⟩ => ⟨g, cap, cur, h1, Nat.le_trans hb h2, h3⟩⟩
theorem bhas_is (B : Bool) (s n : Nat) (w : World) (hn : n ≤ 63) (hs : s < 18446744073709551616) (h : hasBit s n = B) :
    Calls Tryd.prog 10 #[.int .u64 s, .int .i64 n] w fun e w' => e = .returned (.bool B) ∧ w = w' := h ▸ bhas_any s n w hn hs
theorem members_any (x : Int) (w : World) : Calls Tryd.prog 33 #[.int .u64 x] w fun e w' => e = .returned (.func (.func 37) #[] #[.pointer (some ⟨w.heap.size, 0, none⟩)]) ∧ w' = w.alloc (.cells #[.int .u64 x] 22) := by
  go_enter Tryd.func33, Tryd.ntmps33
  go_wp2_with fail
  go_ret
  exact ⟨rfl, rfl⟩

/-- what a round must keep: the set's box -/
def KeepB (B : Nat) (X Y : World) : Prop := ∀ v, X.cell? ⟨B, 0, none⟩ = some v → Y.cell? ⟨B, 0, none⟩ = some v
theorem keepB_t {B : Nat} {X Y Z : World} (h : KeepB B X Y) (k : KeepB B Y Z) : KeepB B X Z := fun v hv => k v (h v hv)
theorem keepB_b {B : Nat} {w : World} (hB : B < w.heap.size) (W : World) (l : Nat) (o o' : Obj) (hl : w.heap.size ≤ l) (_ : W.heap[l]? = some o) (_ : o.isCells = false) (_ : o.isWalk = false) : KeepB B W (W.putObj l o') :=
  fun v hv => (World.cell?_of_block (World.putObj_heap_other (by show B ≠ l; omega))).trans hv
theorem keepB_below {B n₀ : Nat} {X Y : World} (hB : B < n₀) (h : Below n₀ X Y) : KeepB B X Y := fun _ hv => (h.cell (p := ⟨B, 0, none⟩) hB).trans hv
set_option maxRecDepth 100000 in
set_option maxHeartbeats 1000000 in
/-- the iterator's contract -/
theorem members_stops (n : Nat) (hn : 2 ≤ n) (Bx x : Nat) (w : World) (hx : x < 18446744073709551616) (hBx : Bx < w.heap.size) (hc : w.cell? ⟨Bx, 0, none⟩ = some (.int .u64 (x : Int))) :
    SeqStopsK Fence.wide n Tryd.prog 37 #[.pointer (some ⟨Bx, 0, none⟩)] (fun m : Mem x => #[encM m]) (KeepB Bx) (fun ys => ys = memL x 64) (fun _ => True) 64 w := fun l J Jx W hW _ _ hY h0 => by
  have hcW : W.cell? ⟨Bx, 0, none⟩ = some (.int .u64 (x : Int)) := (hW.cell (p := ⟨Bx, 0, none⟩) hBx).trans hc
  have HX := Lib.hid hx
  clear hx
  refine callsIn_of_wp Tryd.func37 rfl trivial ?_ rfl
  simp only [Tryd.ntmps37, List.size_toArray, List.length_cons, List.length_nil, Nat.reduceAdd, Nat.reduceSub, Array.replicate_succ, Array.replicate_zero, List.push_toArray, List.append_toArray, List.nil_append, List.cons_append]
  gi_wp2
  gi_loopw [4] (fun i wr => ∃ k : Nat, k ≤ 64 ∧ i = .int .i64 k ∧ J (memL x k) wr ∧ wr.cell? ⟨Bx, 0, none⟩ = some (.int .u64 (x : Int))) (fun i _ => 64 - (intOf i).toNat)
  case atStart => exact ⟨0, by omega, rfl, by rw [memL_zero]; exact h0, hcW⟩
  case round =>
    obtain ⟨k, hk, rfl, hJ, hcell⟩ := hrel
    by_cases hlt : k < 64
    · cases hb : hasBit x k with
      | false =>
        have HB := Lib.hid hb
        have HJ : Hid (J (memL x (k + 1)) wr) := Lib.hid (by rw [memL_no hb]; exact hJ)
        clear hb
        gi_wp2
        refine ⟨trivial, fun _ => by omega, ?_⟩
        refine (callsIn_wide.2 (bhas_is false x k _ (by omega) HX.out HB.out)).mono ?_
        rintro e w' ⟨rfl, rfl⟩
        gi_wp2
        refine ⟨fun _ h => (by cases h), ?_⟩
        gi_wp2
        go_roundw
        case rel => exact ⟨k + 1, by omega, by go_num, HJ.out, hcell⟩
        case measure => simp [intOf]; omega
      | true =>
        have HB := Lib.hid hb
        have HE : Hid (memL x (k + 1) = memL x k ++ [⟨k, hlt, hb⟩]) := Lib.hid (memL_yes ⟨hlt, hb⟩)
        obtain ⟨fn, tmps, assign, body, hy, hR⟩ := hY (memL x k) ⟨k, hlt, hb⟩ wr hJ (by have := memL_len x k; omega)
        dsimp only [encM] at hy
        gi_wp2
        refine ⟨trivial, fun _ => by omega, ?_⟩
        refine (callsIn_wide.2 (bhas_is true x k _ (by omega) HX.out HB.out)).mono ?_
        rintro e w' ⟨rfl, rfl⟩
        gi_wp2
        refine ⟨fun _ => by omega, ?_⟩
        refine hR.mono ?_
        rintro e W' (⟨rfl, hJ', hk'⟩ | ⟨rfl, hJx⟩)
        · have hc' : W'.cell? ⟨Bx, 0, none⟩ = some (.int .u64 (x : Int)) := hk' _ hcell
          gi_wp2
          go_roundw
          case rel => exact ⟨k + 1, by omega, by go_num, by rw [HE.out]; exact hJ', hc'⟩
          case measure => simp [intOf]; omega
        · gi_wp2
          refine bodyPost_ret (results_none rfl _ _ _) rfl ?_
          exact ⟨⟨_, rfl⟩, .inr ⟨_, trivial, hJx⟩⟩
    · obtain rfl : k = 64 := by omega
      gi_wp2
      go_end0
      exact ⟨⟨_, rfl⟩, .inl ⟨_, rfl, hJ⟩⟩

set_option maxRecDepth 100000 in
set_option maxHeartbeats 2000000 in
theorem append_in (n : Nat) (hn : 4 ≤ n) (Bx x : Nat) (w : World) (hx : x < 18446744073709551616) (hBx : Bx < w.heap.size) (hc : w.cell? ⟨Bx, 0, none⟩ = some (.int .u64 (x : Int))) :
    CallsIn Fence.wide n Tryd.prog 36 #[.slice none 0 0, .func (.func 37) #[] #[.pointer (some ⟨Bx, 0, none⟩)]] w fun e W' =>
      ∃ v, e = .returned v ∧ W'.ownsRow w.heap.size 3 1 v (mems x 64).length (natVals (mems x 64)) ∧ Below w.heap.size w W' := by
  have h1 : 1 ≤ n := by omega
  obtain ⟨i0, hi, hz0, hz1, hz2⟩ := info_parts info_int
  refine callsIn_of_wp_marks Tryd.func36 rfl trivial ?_ rfl
  simp only [Tryd.ntmps36, List.size_toArray, List.length_cons, List.length_nil, Nat.reduceAdd, Nat.reduceSub, Array.replicate_succ, Array.replicate_zero, List.push_toArray, List.append_toArray, List.nil_append, List.cons_append]
  gi_wp2
  have bO := Boxed.new w 26 (.slice none 0 0)
  have hB0 : Below w.heap.size w (w.alloc (.cells #[.slice none 0 0] 26)) := (Below.refl _ w).alloc (Nat.le_refl _) _
  have hcB : (w.alloc (.cells #[.slice none 0 0] 26)).cell? ⟨Bx, 0, none⟩ = some (.int .u64 (x : Int)) := (hB0.cell (p := ⟨Bx, 0, none⟩) hBx).trans hc
  refine wpIn_rangeFunc_ownG rfl h1 (gf := 37) (lb := #[.pointer (some ⟨Bx, 0, none⟩)]) rfl trivial (enters_of Tryd.func37 (by kernel_rfl) rfl)
    (members_stops (n - 1) (by omega) Bx x _ hx (by simp; omega) hcB) keepB_t (keepB_b (by simp; omega)) (Below.refl _ _) (fun _ => rfl)
    (fun (pre : List (Mem x)) W => (∃ v, Boxed W w.heap.size 26 v ∧ W.ownsRow w.heap.size 3 1 v pre.length (pre.map encM) ∧ True) ∧ Below w.heap.size w W)
    (fun _ _ _ => False)
    (OwnFrom.and (Own.from (holdsRow_own w.heap.size w.heap.size 26 3 1 (fun pre : List (Mem x) => pre.length) (fun pre : List (Mem x) => pre.map encM) (fun (_ : List (Mem x)) (_ : Value) => True)) _) (ownFrom_below (Nat.le_refl _) (by simp)))
    (fun _ _ _ _ _ hs _ _ => hs)
    ⟨⟨_, bO, World.ownsRow_nil _ _ _ _, trivial⟩, hB0⟩
    (fun m => { tmps := #[.slice none 0 0, .func (.func 37) #[] #[.pointer (some ⟨Bx, 0, none⟩)], .pointer (some ⟨w.heap.size, 0, none⟩), undef, .slice none 0 0, .int .i64 (m.1 : Int), .func (.func 37) #[] #[.pointer (some ⟨Bx, 0, none⟩)], .int .i64 (m.1 : Int), undef, undef, undef, undef, undef], defers := [] }) ?assign ?body ?done ?stop
  case assign =>
    intro l m W K hK
    gi_wp2
    exact hK
  case body =>
    rintro l pre m W ⟨⟨v, hv, hrow, _⟩, hB⟩ hlt
    have hc := hv.cell
    gi_wp2_with (gi_at_builtin; refine wpListIn_append_own _ rfl _ _ 26 rfl w.heap.size 3 i0 (.int .i64 0) 1 8 Tryd.underlying26 hi hz0 hz1 hz2 rfl (by decide) _ _ _ rfl (hrow.alloc _) ⟨W.heap.size, 0, none⟩ 1 1 [.int .i64 (m.1 : Int)] rfl rfl (cell_one_new _ _ _) (by simp [Value.oneCell']) (by unfold maxLen; omega) (by omega) (by have := hB.size; simp; omega) ?_; intro v' w1 hown' hgrow _; obtain ⟨g', cap', rfl⟩ := ownsRow_succ hown'; obtain ⟨hv1, hv2, hr2, hk2, hb2⟩ := hv.appended (by decide) hrow hB.size (Nat.le_refl _) hown' hgrow; have hc1 := hv1.cell; have hf1 := hv1.frozen)
    exact ⟨hk2.from _, keepB_below hBx hb2, ⟨_, hv2, by simpa [encM] using hr2, trivial⟩, hB.trans hb2⟩
  case done =>
    rintro D ys W hD rfl ⟨⟨v, hv, hrow, _⟩, hB⟩ hK
    have hc := hv.cell
    rw [memL_vals, memL_size] at hrow
    gi_wp2
    refine ⟨by simp, .inl ⟨_, _, rfl, run_takeDeferred hK, ?_⟩⟩
    exact ⟨_, results_tmp rfl _ _ _, v, rfl, ownsRow_putObj hrow _ hK rfl, hB.trans (belowK_b (w := w) (Nat.le_refl _) W D _ _ (by simp at hD; omega) hK rfl rfl)⟩
  case stop =>
    rintro D c pre W _ _ h _
    exact h.elim
theorem collect_in (n : Nat) (hn : 5 ≤ n) (Bx x : Nat) (w : World) (hx : x < 18446744073709551616) (hBx : Bx < w.heap.size) (hc : w.cell? ⟨Bx, 0, none⟩ = some (.int .u64 (x : Int))) :
    CallsIn Fence.wide n Tryd.prog 32 #[.func (.func 37) #[] #[.pointer (some ⟨Bx, 0, none⟩)]] w fun e W' =>
      ∃ v, e = .returned v ∧ W'.ownsRow w.heap.size 3 1 v (mems x 64).length (natVals (mems x 64)) ∧ Below w.heap.size w W' := by
  have h1 : 1 ≤ n := by omega
  refine callsIn_of_wp Tryd.func32 rfl trivial ?_ rfl
  simp only [Tryd.ntmps32, List.size_toArray, List.length_cons, List.length_nil, Nat.reduceAdd, Nat.reduceSub, Array.replicate_succ, Array.replicate_zero, List.push_toArray, List.append_toArray, List.nil_append, List.cons_append]
  gi_wp2
  refine ⟨trivial, ?_⟩
  refine (append_in (n - 1) (by omega) Bx x _ hx hBx hc).mono ?_
  rintro e w' ⟨v, rfl, hrow, hb⟩
  gi_wp2
  go_ret
  exact ⟨v, rfl, hrow, hb⟩
/-- bits.List -/
theorem list_any (x : Nat) (w : World) (hx : x < 18446744073709551616) :
    Calls Tryd.prog 19 #[.int .u64 x] w fun e w' => ∃ v, e = .returned v ∧ w'.ownsRow w.heap.size 3 1 v (mems x 64).length (natVals (mems x 64)) ∧ Below w.heap.size w w' := by
  go_enter Tryd.func19, Tryd.ntmps19
  go_wp2_with fail
  refine (members_any x _).mono ?_
  rintro e w' ⟨rfl, rfl⟩
  have hc : (w.alloc (.cells #[.int .u64 (x : Int)] 22)).cell? ⟨w.heap.size, 0, none⟩ = some (.int .u64 (x : Int)) := blk_cell (heap_new1 w _) 0 _ rfl
  go_wp2_with fail
  refine (callsIn_wide.1 (collect_in 5 (by omega) w.heap.size x _ hx (by simp) hc)).mono ?_
  rintro e w' ⟨v, rfl, hrow, hb⟩
  go_wp2_with fail
  go_ret
  exact ⟨v, rfl, own_base (by simp) hrow, below_on (below1 _ _) hb⟩
end Go.Proofs.YtkhkaofpmcnllaaDoor
