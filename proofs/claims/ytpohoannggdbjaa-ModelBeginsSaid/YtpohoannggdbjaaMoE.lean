/-
 Layer 28: maps.Keys of a map of states; slices.AppendSeq, slices.Collect of it.
-/
import Derived.RangeFuncNested
import Derived.RangeFuncBound
import Derived.RangeFuncCalls
import Derived.RangeFuncLeaves
import Derived.RangeFuncBox
import Derived.Shelf.Abstract
import Derived.Shelf.RegionOpen
import Derived.WalkKit
import Derived.OwnWalkIn
import Derived.TacticsInMore
import Derived.LoopNIn
import Derived.LoopIn
import Derived.Maps.AppendAt
import Derived.Maps.RangeWalk
import Derived.Test.YtpohoannggdbjaaMoD
namespace Go.Proofs.Ytpohoannggdbjaa
open Go.RowKit Go.Shelf
set_option maxRecDepth 100000
attribute [local go_sem] Oper.semAt_some
theorem wpListIn_load_is {F : Fence} {n : Nat} {P : Program} {ops : Array Oper} {rest : List Oper} {op : Oper} {a : Act} {w : World} {Q : Exit → Act → World → Prop} (hgd : op.guard = none) (ty : TypeId) (x : Operand) (ho : op.op = .load ty x) (vx v : Value) (hx : a.eval x = vx)
 (hr : (Instr.loadAt ty vx).run P w = .ok v w) (h : wpListIn F n P ops Q rest (a.put op.dst v) w) : wpListIn F n P ops Q (op :: rest) a w :=
 wpListIn_plain hgd fun K hK => by
  unfold Oper.wpIn
  refine ⟨?_, ?_⟩
  ·simp [Oper.about, ho]
  ·rw [Oper.semAt_plain F _ _ (by rw [ho]; intro c hc'; cases hc')]
   unfold execOp
   simp only [ho, hx, Sem.run_bind, hr, Result.andThen_ok, Sem.run_pure]
   exact hK _ _ h
theorem wpListIn_store_is {F : Fence} {n : Nat} {P : Program} {ops : Array Oper} {rest : List Oper} {op : Oper} {a : Act} {w : World} {Q : Exit → Act → World → Prop} (hgd : op.guard = none) (ty : TypeId) (x y : Operand) (ho : op.op = .store ty x y) (vx vy : Value) (hx : a.eval x = vx) (hy : a.eval y = vy)
 (w' : World) (hr : (Instr.storeAt ty vx vy).run P w = .ok () w') (h : wpListIn F n P ops Q rest (a.put op.dst undef) w') : wpListIn F n P ops Q (op :: rest) a w :=
 wpListIn_plain hgd fun K hK => by
  unfold Oper.wpIn
  refine ⟨?_, ?_⟩
  ·simp [Oper.about, ho]
  ·rw [Oper.semAt_plain F _ _ (by rw [ho]; intro c hc'; cases hc')]
   unfold execOp
   simp only [ho, hx, hy, Sem.run_bind, hr, Result.andThen_ok, Sem.run_pure]
   exact hK _ _ h
theorem it_left {w : World} {it m : Nat} {K L : List St} (h : ItAt w it m K L) : w.rangeLeft m it = L.length := by
 obtain ⟨es, clock, since, seen, c0, a1, a2, a3, a4, a5, a6, a7, a8⟩ := h
 unfold World.rangeLeft
 rw [a2, a1]
 have := congrArg List.length a8
 simpa using this
theorem ItAt.walks {w w' : World} {it m : Nat} {K L : List St} (h : ItAt w it m K L) (k : KeepsWalks w w') : ItAt w' it m K L := by
 obtain ⟨es, clock, since, seen, c0, a1, a2, a3⟩ := h
 exact ⟨es, clock, since, seen, c0, k.same _ _ a1 rfl, k.same _ _ a2 rfl, a3⟩
theorem only_grown {it : Nat} {w w' : World} (h : Only it w w') : w.grownBy w' (some it) := ⟨h.os, h.tape, h.output, h.size, fun k hk hne => h.block k hk (fun e => hne (by rw [e]))⟩
theorem below_grown0 {w w' : World} (h : Below w.heap.size w w') : w.grownBy w' none := ⟨h.os, h.tape, h.output, h.size, fun k hk _ => h.block k hk⟩
theorem below_walks {w w' : World} (h : Below w.heap.size w w') : KeepsWalks w w' := ⟨h.size, fun _ _ hk _ => blk_keep h hk⟩
/-- a new box that holds a state -/
theorem box_st (W : World) (s : St) : (Instr.storeAt 66 (.pointer (some ⟨W.heap.size, 0, none⟩)) (.agg (stL s).toArray)).run Try.prog (W.alloc (.cells (stL zS).toArray 66)) = .ok () ((W.alloc (.cells (stL zS).toArray 66)).setCells W.heap.size 0 (stL s)) ∧ ((W.alloc (.cells (stL zS).toArray 66)).setCells W.heap.size 0 (stL s)).heap[W.heap.size]? = some (.cells (stL s).toArray 66) ∧ Below W.heap.size W ((W.alloc (.cells (stL zS).toArray 66)).setCells W.heap.size 0 (stL s)) := by
 have hb := below1 W (.cells (stL zS).toArray 66)
 obtain ⟨h1, h2, h3⟩ := store_st (s' := s) (alloc1 W (.cells (stL zS).toArray 66) (Below.refl _ _))
 exact ⟨h1, h2, Only.below hb (Nat.le_refl _) hb.size h3⟩
attribute [local irreducible] Sl.v hasBit pw withBit woBit stL tmL nextS outS addS cycL leads shows stepT reachN
set_option maxHeartbeats 2000000 in
theorem keys_stops (n : Nat) (hn : 2 ≤ n) (Bm r : Nat) (K : List St) (w : World) (hB : w.heap[Bm]? = some (.cells #[.map (some r)] 88)) (hms : MsAt w r K) :
 SeqStopsK Fence.wide n Try.prog 42 #[.pointer (some ⟨Bm, 0, none⟩)] (fun s : St => #[.agg (stL s).toArray]) KeepsWalks (fun ys => ys.Perm K) (fun _ => True) K.length w := fun lp J Jx W hW hA _ hY h0 => by
 have c0 := blk_cell (blk_keep hW hB) 0 _ rfl
 obtain ⟨o, hrg, hit⟩ := run_it_range (hms.below hW)
 have HA := Lib.hid hA
 have hJ0 : J [] (W.alloc o) := hA [] W _ none h0 (World.grownBy_alloc W o none) (fun r e => by cases e)
 have hbw := below1 W o
 obtain ⟨it, hite⟩ : ∃ g, g = W.heap.size := ⟨_, rfl⟩
 obtain ⟨W1, hW1⟩ : ∃ V, V = W.alloc o := ⟨_, rfl⟩
 have HIT : Hid (W.heap.size ≤ it) := Lib.hid (by omega)
 rw [← hite] at hit hrg
 rw [← hW1] at hit hrg hJ0 hbw
 have HBW := Lib.hid hbw
 clear hite hW1 hA hbw hB hms hW
 refine callsIn_of_wp Try.func42 rfl trivial ?_ rfl
 simp only [Try.ntmps42, List.size_toArray, List.length_cons, List.length_nil, Nat.reduceAdd, Nat.reduceSub, Array.replicate_succ, Array.replicate_zero, List.push_toArray, List.append_toArray, List.nil_append, List.cons_append]
 gi_wp2
 (try go_frame)
 clear hrg c0
 gi_loopw [3] (fun _ wr => ∃ (D L : List St), K.Perm (D ++ L) ∧ ItAt wr it r K L ∧ J D wr) (fun _ wr => wr.rangeLeft r it)
 case atStart => exact ⟨[], K, List.Perm.refl _, hit, hJ0⟩
 case round =>
  obtain ⟨D, L, hP, hI, hJ⟩ := hrel
  have HL := Lib.hid (it_left hI)
  rcases run_it_next 0 hI with ⟨hL, hrun⟩ | ⟨s, L', w2, hPL, hrun, hI2, hO, hsz, hen⟩
  ·subst hL
   rw [List.append_nil] at hP
   have HP := Lib.hid hP.symm
   clear hP hI
   gi_wp2
   go_end0
   exact ⟨⟨_, rfl⟩, .inl ⟨_, HP.out, hJ⟩⟩
  ·unfold stV at hrun hen
   have hJ2 : J D w2 := HA.out D wr w2 (some it) hJ (only_grown hO) (fun r' e => by
    cases e
    obtain ⟨es, clock, since, seen, c0, a1, _⟩ := hI
    exact ⟨HIT.out, _, a1, rfl⟩)
   obtain ⟨hst, hq, hbb⟩ := box_st w2 s
   have hJ4 := HA.out D w2 _ none hJ2 (below_grown0 hbb) (fun r' e => by cases e)
   have hI4 := hI2.walks (below_walks hbb)
   obtain ⟨w4, hw4⟩ : ∃ V, V = (w2.alloc (.cells (stL zS).toArray 66)).setCells w2.heap.size 0 (stL s) := ⟨_, rfl⟩
   rw [← hw4] at hst hq hJ4 hI4
   have HST := Lib.hid hst
   have HLD := Lib.hid (load_st hq)
   have HP2 : Hid (K.Perm ((D ++ [s]) ++ L')) := Lib.hid (by
    rw [List.append_assoc]
    exact hP.trans (hPL.append_left D))
   have HLT : Hid (L'.length < L.length) := Lib.hid (by rw [hPL.length_eq]; exact Nat.lt_succ_self _)
   have hlen : D.length < K.length := by rw [hP.length_eq, List.length_append, hPL.length_eq, List.length_cons]; omega
   obtain ⟨fn, tmps, assign, body, hy, hR⟩ := hY D s w4 hJ4 hlen
   clear hst hq hbb hw4 hP hPL hlen hJ hJ2 hI hI2 hO hsz
   gi_wp2_with (first
    | rw [zero_st]
    | ((with_reducible refine wpListIn_store_is (op := ⟨none, .store 66 _ _, _, _, _, _⟩) rfl 66 _ _ rfl _ _ ?_ ?_ _ HST.out ?_); (· rfl); (· rfl))
    | ((with_reducible refine wpListIn_load_is (op := ⟨some 11, _, _, _, _, _⟩) rfl 66 _ rfl _ _ ?_ HLD.out ?_); (· rfl)))
   refine ⟨fun _ => by omega, ?_⟩
   refine hR.mono ?_
   rintro e W' (⟨rfl, hJ', hk'⟩ | ⟨rfl, hJx⟩)
   ·have hI5 := hI4.walks hk'
    gi_wp2
    go_roundw
    case rel => exact ⟨D ++ [s], L', HP2.out, hI5, hJ'⟩
    case measure => rw [it_left hI5, HL.out]; exact HLT.out
   ·gi_wp2
    refine bodyPost_ret (results_none rfl _ _ _) rfl ?_
    exact ⟨⟨_, rfl⟩, .inr ⟨_, trivial, hJx⟩⟩
end Go.Proofs.Ytpohoannggdbjaa
