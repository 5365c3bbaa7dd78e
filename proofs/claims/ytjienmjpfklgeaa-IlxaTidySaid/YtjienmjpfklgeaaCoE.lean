/-
  Layer 06: slices.Backward over needs: the iterator's contract.
-/
import Derived.RangeFuncNested
import Derived.RangeFuncBound
import Derived.RangeFuncCalls
import Derived.RangeFuncLeaves
import Derived.RangeFuncBox
import Derived.Shelf.Abstract
import Derived.Shelf.RegionOpen
import Derived.WalkKit
import Derived.OwnWalkIn
import Derived.TacticsInMore
import Derived.LoopNIn
import Derived.LoopIn
import Derived.Maps.AppendAt
import Derived.Test.YtjienmjpfklgeaaCoD
namespace Go.Proofs.Ytjienmjpfklgeaa
open Go.RowKit Go.Shelf
set_option maxRecDepth 100000
attribute [local go_sem] Oper.semAt_some

theorem backward_any (a : Option Addr) (n c : Nat) (w : World) : Calls Try.prog 107 #[.slice a n c] w fun e w' => e = .returned (.func (.func 108) #[] #[.pointer (some ⟨w.heap.size, 0, none⟩)]) ∧ w' = w.alloc (.cells #[.slice a n c] 42) := by
  go_enter Try.func107, Try.ntmps107
  go_wp2_with fail
  go_ret
  exact ⟨rfl, rfl⟩
/-- needs with their places, from the last one on -/
def bkL (l : List (Int × Bool)) : List (Nat × (Int × Bool)) := (l.zipIdx.map fun p => (p.2, p.1)).reverse
theorem bkL_len (l : List (Int × Bool)) : (bkL l).length = l.length := by simp [bkL]
theorem bkL_get {l : List (Int × Bool)} {q t : Nat} {y : Int × Bool} (ht : l.length = q + 1 + t) (h : l[t]? = some y) : (bkL l)[q]? = some (t, y) := by
  unfold bkL
  have hlen : (l.zipIdx.map fun p => ((p.2, p.1) : Nat × (Int × Bool))).length = l.length := by simp
  rw [List.getElem?_reverse (by rw [hlen]; omega), hlen, show l.length - 1 - q = t by omega, List.getElem?_map, List.getElem?_zipIdx, h]
  simp
def encB (m : Nat × (Int × Bool)) : Array Value := #[.int .i64 (m.1 : Int), .agg #[.int .i64 m.2.1, .bool m.2.2]]
/-- what a round must keep: all blocks of cells -/
def KpC (X Y : World) : Prop := ∀ (k : Nat) (cs : Array Value) (t : TypeId) (fr : Nat × Nat), X.heap[k]? = some (Obj.cells cs t fr) → Y.heap[k]? = some (Obj.cells cs t fr)
theorem kpC_t {X Y Z : World} (h : KpC X Y) (k : KpC Y Z) : KpC X Z := fun b cs t fr hb => k b cs t fr (h b cs t fr hb)
theorem kpC_b (W : World) (l : Nat) (o o' : Obj) (hl : W.heap[l]? = some o) (ho : o.isCells = false) : KpC W (W.putObj l o') := by
  intro k cs t fr hk
  have hne : k ≠ l := by
    intro e
    subst e
    rw [hl] at hk
    injection hk with hk
    rw [hk] at ho
    cases ho
  rw [World.putObj_heap_other hne]
  exact hk
theorem kpC_below {X Y : World} (h : Below X.heap.size X Y) : KpC X Y := fun _ _ _ _ hk => blk_keep h hk
theorem cell_obj {w : World} {b i : Nat} {v : Value} (h : w.cell? ⟨b, i, none⟩ = some v) : ∃ cs t fr, w.heap[b]? = some (.cells cs t fr) := by
  unfold World.cell? at h
  cases hh : w.heap[b]? with
  | none => simp [hh] at h
  | some o =>
    cases o with
    | cells cs t fr => exact ⟨cs, t, fr, rfl⟩
    | _ => simp [hh] at h
theorem RowAt.kpC {α : Type} {sz : Nat} {f : α → List Value} {w w' : World} {a : Option Addr} {l : List α} (h : RowAt sz f w a l) (k : KpC w w') : RowAt sz f w' a l := by
  refine h.imp id ?_
  rintro ⟨b, off, h1, h2⟩
  refine ⟨b, off, h1, fun i c hi j v hv => ?_⟩
  have h3 := h2 i c hi j v hv
  obtain ⟨cs, t, fr, h4⟩ := cell_obj h3
  rw [World.cell?_of_block (w := w) (a := ⟨b, off + i * sz + j, none⟩) ((k b cs t fr h4).trans h4.symm)]
  exact h3
attribute [local irreducible] bkL
set_option maxHeartbeats 2000000 in
theorem back_stops (n : Nat) (hn : 2 ≤ n) (Bx m c : Nat) (a : Option Addr) (l : List (Int × Bool)) (w : World) (hl : l.length = m) (hm : m ≤ 100000) (hrow : RowAt 2 ndC w a l) (hBx : w.heap[Bx]? = some (.cells #[.slice a m c] 42)) :
    SeqStopsK Fence.wide n Try.prog 108 #[.pointer (some ⟨Bx, 0, none⟩)] encB KpC (fun ys => ys = bkL l) (fun _ => True) m w := fun lp J Jx W hW _ _ hY h0 => by
  have hqW := blk_keep hW hBx
  have hrW := hrow.below hW
  have HL := Lib.hid hl
  have HM := Lib.hid hm
  have E3 : Hid (wrap64 ((m : Int) - 1) = (m : Int) - 1) := Lib.hid (by unfold wrap64; omega)
  have c0 := blk_cell hqW 0 _ rfl
  have e3 := E3.out
  clear hl hm hrow hBx hW
  refine callsIn_of_wp Try.func108 rfl trivial ?_ rfl
  simp only [Try.ntmps108, List.size_toArray, List.length_cons, List.length_nil, Nat.reduceAdd, Nat.reduceSub, Array.replicate_succ, Array.replicate_zero, List.push_toArray, List.append_toArray, List.nil_append, List.cons_append]
  gi_wp2
  clear e3 c0
  gi_loopw [3] (fun i wr => ∃ (q : Nat) (iv : Int), q ≤ m ∧ i = .int .i64 iv ∧ iv = (m : Int) - 1 - (q : Int) ∧ J ((bkL l).take q) wr ∧ wr.heap[Bx]? = some (.cells #[.slice a m c] 42) ∧ RowAt 2 ndC wr a l) (fun i _ => (intOf i + 1).toNat)
  case atStart => exact ⟨0, _, Nat.zero_le _, rfl, by first | (rw [E3.out]; omega) | omega, by rw [List.take_zero]; exact h0, hqW, hrW⟩
  case round =>
    obtain ⟨q, iv, hq, rfl, hiv, hJ, hbx, hr⟩ := hrel
    have HBX := Lib.hid hbx
    have HR := Lib.hid hr
    by_cases hlt : q < m
    · obtain ⟨t, ht⟩ : ∃ t, m = q + 1 + t := ⟨m - (q + 1), by omega⟩
      have hit : iv = (t : Int) := by omega
      subst hit
      obtain ⟨y, hy⟩ : ∃ y, l[t]? = some y := ⟨_, List.getElem?_eq_getElem (by rw [HL.out]; omega)⟩
      have hbk := bkL_get (by rw [HL.out]; exact ht) hy
      obtain ⟨fn, tmps, assign, body, hy2, hR⟩ := hY ((bkL l).take q) (t, y) wr hJ (by rw [List.length_take, bkL_len, HL.out]; omega)
      obtain ⟨y0, y1⟩ := y
      dsimp only [encB] at hy2
      rcases hr with hnil | ⟨xb, off, hxb, hc⟩
      · rw [hnil] at hy; simp at hy
      subst hxb
      have z0 := hc t _ hy 0 _ rfl
      have z1 := hc t _ hy 1 _ rfl
      rw [Nat.add_zero] at z0
      dsimp only at z0 z1
      have c0 := blk_cell hbx 0 _ rfl
      have d1 : (0 : Int) ≤ (t : Int) := by omega
      have d2 : (t : Int) < (m : Int) := by omega
      have HT := Lib.hid ht
      have HQ := Lib.hid hq
      have HLT := Lib.hid hlt
      have HJN : Hid (∀ V, J ((bkL l).take q ++ [(t, (y0, y1))]) V → J ((bkL l).take (q + 1)) V) := Lib.hid (fun V h => by rw [List.take_add_one, hbk]; exact h)
      have E5 : Hid (wrap64 ((t : Int) - 1) = (t : Int) - 1) := Lib.hid (by have := HM.out; unfold wrap64; omega)
      clear hc hy hbk hbx ht hq hlt hJ hiv
      gi_wp2
      refine ⟨fun _ => by omega, ?_⟩
      refine hR.mono ?_
      rintro e W' (⟨rfl, hJ', hk'⟩ | ⟨rfl, hJx⟩)
      · have hb' := hk' _ _ _ _ HBX.out
        have hr' := HR.out.kpC hk'
        have e5 := E5.out
        gi_wp2
        go_roundw
        case rel => exact ⟨q + 1, (t : Int) - 1, by have := HLT.out; omega, by first | rfl | go_num, by have := HT.out; omega, HJN.out _ hJ', hb', hr'⟩
        case measure => first | (simp [intOf, E5.out]; done) | (simp [intOf, E5.out]; omega)
      · gi_wp2
        refine bodyPost_ret (results_none rfl _ _ _) rfl ?_
        exact ⟨⟨_, rfl⟩, .inr ⟨_, trivial, hJx⟩⟩
    · have hqm : q = m := by omega
      have hit : iv = -1 := by omega
      subst hit
      subst hqm
      have hJ2 := hJ
      rw [List.take_of_length_le (by rw [bkL_len, HL.out]; exact Nat.le_refl _)] at hJ2
      clear hbx hr hiv hq hlt
      gi_wp2
      go_end0
      exact ⟨⟨_, rfl⟩, .inl ⟨_, rfl, hJ2⟩⟩
end Go.Proofs.Ytjienmjpfklgeaa
