/-
  Walks of chapter 14: slices.Backward over the open writes.
-/
import Derived.RangeFuncNested
import Derived.RangeFuncBound
import Derived.RangeFuncCalls
import Derived.RangeFuncLeaves
import Derived.RangeFuncBox
import Derived.Shelf.Abstract
import Derived.Shelf.RegionOpen
import Derived.WalkKit
import Derived.OwnWalkIn
import Derived.TacticsInMore
import Derived.LoopNIn
import Derived.LoopIn
import Derived.Maps.AppendAt
import Derived.Test.YtncijclhfndniaaDiskE
namespace Go.Proofs.Ytncijclhfndniaa
open Go.RowKit Go.Shelf
attribute [local go_sem] Oper.semAt_some
attribute [local irreducible] byteVals wrVs wrV BlAt okB zeros puts pad Dk.ask Dk.settle Dk.count Dk.gCode Dk.synced fated fateAt lastOf

theorem wpListIn_load_is {F : Fence} {n : Nat} {P : Program} {ops : Array Oper} {rest : List Oper} {op : Oper} {a : Act} {w : World} {Q : Exit → Act → World → Prop} (hgd : op.guard = none) (ty : TypeId) (x : Operand) (ho : op.op = .load ty x) (vx v : Value) (hx : a.eval x = vx)
    (hr : (Instr.loadAt ty vx).run P w = .ok v w) (h : wpListIn F n P ops Q rest (a.put op.dst v) w) : wpListIn F n P ops Q (op :: rest) a w :=
  wpListIn_plain hgd fun K hK => by
    unfold Oper.wpIn
    refine ⟨?_, ?_⟩
    · simp [Oper.about, ho]
    · rw [Oper.semAt_plain F _ _ (by rw [ho]; intro c hc'; cases hc')]
      unfold execOp
      simp only [ho, hx, Sem.run_bind, hr, Result.andThen_ok, Sem.run_pure]
      exact hK _ _ h
theorem wpListIn_store_is {F : Fence} {n : Nat} {P : Program} {ops : Array Oper} {rest : List Oper} {op : Oper} {a : Act} {w : World} {Q : Exit → Act → World → Prop} (hgd : op.guard = none) (ty : TypeId) (x y : Operand) (ho : op.op = .store ty x y) (vx vy : Value) (hx : a.eval x = vx) (hy : a.eval y = vy)
    (w' : World) (hr : (Instr.storeAt ty vx vy).run P w = .ok () w') (h : wpListIn F n P ops Q rest (a.put op.dst undef) w') : wpListIn F n P ops Q (op :: rest) a w :=
  wpListIn_plain hgd fun K hK => by
    unfold Oper.wpIn
    refine ⟨?_, ?_⟩
    · simp [Oper.about, ho]
    · rw [Oper.semAt_plain F _ _ (by rw [ho]; intro c hc'; cases hc')]
      unfold execOp
      simp only [ho, hx, hy, Sem.run_bind, hr, Result.andThen_ok, Sem.run_pure]
      exact hK _ _ h
/-- an open write, as the iterator hands it over -/
abbrev Wr := { x : Nat × (Nat × List Nat) // okB x.2.2 }
def encW (x : Wr) : Array Value := #[.int .i64 (x.1.1 : Int), .agg (wrV x.1.2).toArray]
def prevI : Nat → Value
  | 0 => .int .i64 (-1)
  | j + 1 => .int .i64 (j : Int)
theorem prevI_eq (j : Nat) : Value.int .i64 ((j : Int) - 1) = prevI j := by
  cases j with
  | zero => rfl
  | succ j => unfold prevI; exact int_eq (by omega)
def wrOf (l : List Wr) : List (Nat × List Nat) := l.map fun x => x.1.2
/-- what a round must keep: the blocks of Z -/
def KeepZ (Z : Nat → Prop) (X Y : World) : Prop := ∀ k, Z k → Y.heap[k]? = X.heap[k]?
theorem keepZ_t {Z : Nat → Prop} {A B C : World} (h : KeepZ Z A B) (k : KeepZ Z B C) : KeepZ Z A C := fun i hi => (k i hi).trans (h i hi)
theorem keepZ_b {Z : Nat → Prop} {w : World} (hZ : ∀ k, Z k → k < w.heap.size) (W : World) (l : Nat) (o o' : Obj) (hl : w.heap.size ≤ l) (_ : W.heap[l]? = some o) (_ : o.isCells = false) (_ : o.isWalk = false) : KeepZ Z W (W.putObj l o') :=
  fun k hk => World.putObj_heap_other (by have := hZ k hk; omega)
theorem drop_rev {α : Type} {l : List α} {j : Nat} {p : α} (h : l[j]? = some p) : (l.drop j).reverse = (l.drop (j + 1)).reverse ++ [p] := by
  have hj : j < l.length := (List.getElem?_eq_some_iff.1 h).1
  rw [List.drop_eq_getElem_cons hj, List.reverse_cons]
  rw [List.getElem?_eq_getElem hj] at h
  rw [Option.some.inj h]
theorem wrOf_append (l : List Wr) (x : Wr) : wrOf (l ++ [x]) = wrOf l ++ [x.1.2] := by unfold wrOf; rw [List.map_append]; rfl
theorem wrOf_length (l : List Wr) : (wrOf l).length = l.length := by unfold wrOf; exact List.length_map _
theorem backward_any (a : Option Addr) (n c : Nat) (w : World) : Calls Try.prog 29 #[.slice a n c] w fun e w' => e = .returned (.func (.func 39) #[] #[.pointer (some ⟨w.heap.size, 0, none⟩)]) ∧ w' = w.alloc (.cells #[.slice a n c] 51) := by
  go_enter Try.func29, Try.ntmps29
  go_wp2_with fail
  go_ret
  exact ⟨rfl, rfl⟩
set_option maxRecDepth 100000 in
set_option maxHeartbeats 1000000 in
/-- the iterator's contract -/
theorem backward_stops (n : Nat) (hn : 2 ≤ n) (Bx q cap : Nat) (v : Value) (L : List (Nat × List Nat)) (w : World) (Z : Nat → Prop) (hv : v = .slice none 0 0 ∧ L = [] ∨ v = .slice (some ⟨q, 0, none⟩) L.length cap ∧ Z q)
    (hbox : w.heap[Bx]? = some (.cells #[v] 51 (0, 0))) (hZB : Z Bx) (hZl : ∀ k, Z k → k < w.heap.size) (hok : ∀ p ∈ L, okB p.2) (hrow : ∀ (k : Nat) (p : Nat × List Nat), L[k]? = some p → w.rangeAt q (k * 257) (wrV p)) (hm : L.length ≤ maxLen) :
    SeqStopsK Fence.wide n Try.prog 39 #[.pointer (some ⟨Bx, 0, none⟩)] encW (KeepZ Z) (fun ys => wrOf ys = L.reverse) (fun ys => ∃ k, wrOf ys = (L.drop k).reverse) L.length w := fun l J Jx W hW _ _ hY h0 => by
  have hbW : KeepZ Z w W := fun k hk => hW.block k (hZl k hk)
  unfold maxLen at hm
  obtain ⟨ad, e, hvs, had⟩ : ∃ (ad : Option Addr) (c : Nat), v = .slice ad L.length c ∧ (0 < L.length → ad = some ⟨q, 0, none⟩ ∧ Z q) := by
    rcases hv with ⟨rfl, h⟩ | ⟨rfl, h⟩
    · exact ⟨none, 0, by rw [h]; rfl, fun h1 => by rw [h] at h1; simp at h1⟩
    · exact ⟨some ⟨q, 0, none⟩, cap, rfl, fun _ => ⟨rfl, h⟩⟩
  subst hvs
  clear hv
  have HOK := Lib.hid hok
  have HROW := Lib.hid hrow
  have HBW := Lib.hid hbW
  have HBOX := Lib.hid hbox
  have HAD := Lib.hid had
  obtain ⟨N, hN⟩ : ∃ N, N = L.length := ⟨_, rfl⟩
  have hc0 : W.cell? ⟨Bx, 0, none⟩ = some (.slice ad N e) := by rw [hN]; exact blk_cell ((hbW Bx hZB).trans hbox) 0 _ rfl
  rw [← hN] at hm hY
  have HN := Lib.hid hN
  clear hok hrow hbW hbox had hN
  refine callsIn_of_wp Try.func39 rfl trivial ?_ rfl
  simp only [Try.ntmps39, List.size_toArray, List.length_cons, List.length_nil, Nat.reduceAdd, Nat.reduceSub, Array.replicate_succ, Array.replicate_zero, List.push_toArray, List.append_toArray, List.nil_append, List.cons_append]
  gi_wp2
  gi_loopw [3] (fun i wr => ∃ (k : Nat) (pre : List Wr), k ≤ N ∧ i = prevI k ∧ wrOf pre = (L.drop k).reverse ∧ J pre wr ∧ KeepZ Z w wr) (fun i _ => (intOf i + 1).toNat)
  case atStart => exact ⟨N, [], Nat.le_refl _, prevI_eq N, by rw [HN.out, List.drop_length]; rfl, h0, HBW.out⟩
  case round =>
    obtain ⟨k, pre, hk, rfl, hpre, hJ, hKZ⟩ := hrel
    clear hc0
    have hc1 : wr.cell? ⟨Bx, 0, none⟩ = some (.slice ad N e) := by rw [HN.out]; exact blk_cell ((hKZ Bx hZB).trans HBOX.out) 0 _ rfl
    have HP := Lib.hid hpre
    clear hpre
    rcases k with _ | j
    · unfold prevI
      gi_wp2
      go_end0
      have h9 := HP.out
      rw [List.drop_zero] at h9
      exact ⟨⟨_, rfl⟩, .inl ⟨_, h9, hJ⟩⟩
    · unfold prevI
      obtain ⟨p, hp⟩ : ∃ p, L[j]? = some p := ⟨_, List.getElem?_eq_getElem (by have := HN.out; omega)⟩
      obtain ⟨rfl, hzq⟩ := HAD.out (by have := HN.out; omega)
      have hp2 := HOK.out p (List.mem_of_getElem? hp)
      have hr := HROW.out j p hp
      have hlen : pre.length < N := by
        have h1 := wrOf_length pre
        rw [HP.out, List.length_reverse, List.length_drop] at h1
        have := HN.out
        omega
      obtain ⟨fn, tmps, assign, body, hy, hR⟩ := hY pre ⟨(j, p), hp2⟩ wr hJ hlen
      dsimp only [encW] at hy
      have HL := Lib.hid (load_wr wr q (j * 257) p hp2 (range_of_blk (hKZ q hzq) hr))
      have HE : Hid (wrOf (pre ++ [⟨(j, p), hp2⟩]) = (L.drop j).reverse) := Lib.hid (by rw [wrOf_append, drop_rev hp, HP.out])
      have d1 : (j : Int) < N := by omega
      have d2 : (0 : Int) ≤ j := by omega
      clear hr hp
      gi_wp2_with (refine wpListIn_load_is (op := ⟨some 16, _, _, _, _, _⟩) rfl 60 _ rfl _ _ rfl HL.out ?_)
      refine ⟨fun _ => by omega, ?_⟩
      refine hR.mono ?_
      rintro e W' (⟨rfl, hJ', hk'⟩ | ⟨rfl, hJx⟩)
      · gi_wp2
        go_roundw
        case rel => exact ⟨j, _, by omega, prevI_eq j, HE.out, hJ', keepZ_t hKZ hk'⟩
        case measure => simp [intOf]
      · gi_wp2
        refine bodyPost_ret (results_none rfl _ _ _) rfl ?_
        exact ⟨⟨_, rfl⟩, .inr ⟨_, ⟨_, HE.out⟩, hJx⟩⟩
end Go.Proofs.Ytncijclhfndniaa
