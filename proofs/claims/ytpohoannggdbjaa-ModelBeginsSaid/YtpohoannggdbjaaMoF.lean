/-
 Layer 28: slices.AppendSeq, slices.Collect of the states of a map.
-/
import Derived.Test.YtpohoannggdbjaaMoE
import Derived.Great.BuildSlice
namespace Go.Proofs.Ytpohoannggdbjaa
open Go.RowKit Go.Shelf
set_option maxRecDepth 100000
attribute [local go_sem] Oper.semAt_some
theorem fold_get (l : List Value) : ∀ (k : Nat) (c : Array Value), k + l.length ≤ c.size → ∀ j, ((l.zipIdx k).foldl (fun (cs : Array Value) (x : Value × Nat) => cs.setIfInBounds (0 + x.2) x.1) c)[j]? = if k ≤ j ∧ j < k + l.length then l[j - k]? else c[j]? := by
 induction l with
 | nil => intro k c hk j; simp only [List.zipIdx_nil, List.foldl_nil, List.length_nil]; rw [if_neg (by omega)]
 | cons x l ih =>
   intro k c hk j
   simp only [List.length_cons] at hk
   simp only [List.zipIdx_cons, List.foldl_cons, List.length_cons]
   rw [ih (k + 1) _ (by rw [Array.size_setIfInBounds]; omega) j]
   by_cases h1 : k + 1 ≤ j ∧ j < k + 1 + l.length
   ·rw [if_pos h1, if_pos (by omega), show j - k = (j - (k + 1)) + 1 by omega, List.getElem?_cons_succ]
   ·rw [if_neg h1, Array.getElem?_setIfInBounds]
    by_cases h2 : k = j
    ·subst h2
     rw [if_pos (by omega), if_pos (by omega), if_pos (by omega)]; simp
    ·rw [if_neg (by omega), if_neg (by omega)]
theorem fill_all (l : List Value) (c : Array Value) (h1 : l.length = 68) (h2 : c.size = 68) : Instr.fill (fun i => some (i * 68, 68)) c [(0, .agg l.toArray)] = some l.toArray := by
 have hc : (Value.agg l.toArray).cells = l.toArray := rfl
 have hf : (l.toArray.zipIdx.foldl (fun (cs : Array Value) (x : Value × Nat) => cs.setIfInBounds (0 + x.2) x.1) c) = l.toArray := by
  apply Array.ext_getElem?
  intro j
  have := fold_get l 0 c (by omega) j
  have e : l.toArray.zipIdx.foldl (fun (cs : Array Value) (x : Value × Nat) => cs.setIfInBounds (0 + x.2) x.1) c = (l.zipIdx 0).foldl (fun (cs : Array Value) (x : Value × Nat) => cs.setIfInBounds (0 + x.2) x.1) c := by
   rw [← Array.foldl_toList]; simp
  rw [e, this]
  by_cases hj : j < l.length
  ·rw [if_pos (by omega)]; simp
  ·rw [if_neg (by omega), Array.getElem?_eq_none (by omega), Array.getElem?_eq_none (by rw [List.size_toArray]; omega)]
 unfold Instr.fill
 simp only [hc, Nat.zero_mul]
 rw [if_neg (by simp [h1, h2])]
 unfold Instr.fill
 exact congrArg some hf
theorem info_st3 : (Try.prog.info? 66).map (fun i => (i.zero, i.size, i.bytes)) = some (some (.agg (stL zS).toArray), 68, 96) := by kernel_rfl
theorem run_build_st (s : St) (w : World) : (Instr.buildSlice 38 1 #[(0, .agg (stL s).toArray)]).run Try.prog w = .ok (.slice (some ⟨w.heap.size, 0, none⟩) 1 1) (w.alloc (.cells (stL s).toArray 66)) := by
 obtain ⟨i, hi, hz0, hz1, hz2⟩ := info_parts info_st3
 refine run_buildSlice w 38 66 1 _ _ i _ Try.underlying38 hi hz0 (by rw [hz1]; decide) (by rw [hz1]; decide) ?_
 rw [hz1]
 exact fill_all (stL s) _ (st_len s) (by simp)
theorem cells_new (w : World) (l : List Value) (t : TypeId) : ∀ (j : Nat) u, l[j]? = some u → (w.alloc (.cells l.toArray t)).cell? ((⟨w.heap.size, 0, none⟩ : Addr).add j) = some u := by
 intro j u hj
 have h := blk_cell (alloc1 w (.cells l.toArray t) (Below.refl _ _)) (0 + j) u (by rw [Nat.zero_add, List.getElem?_toArray]; exact hj)
 rw [Nat.zero_add] at h
 have e : (⟨w.heap.size, 0, none⟩ : Addr).add j = ⟨w.heap.size, j, none⟩ := by
  unfold Addr.add
  by_cases hj0 : j = 0
  ·subst hj0; rfl
  ·simp [hj0]
 rw [e]; exact h
theorem wpListIn_build_is {F : Fence} {n : Nat} {P : Program} {ops : Array Oper} {rest : List Oper} {op : Oper} {a : Act} {w : World} {Q : Exit → Act → World → Prop} (hgd : op.guard = none) (t : TypeId) (x : Operand) (ho : op.op = .buildSlice t 1 #[(0, x)]) (vx v : Value) (hx : a.eval x = vx) (w' : World)
 (hr : (Instr.buildSlice t 1 #[(0, vx)]).run P w = .ok v w') (h : wpListIn F n P ops Q rest (a.put op.dst v) w') : wpListIn F n P ops Q (op :: rest) a w :=
 wpListIn_plain hgd fun K hK => by
  unfold Oper.wpIn
  refine ⟨?_, ?_⟩
  ·simp [Oper.about, ho]
  ·rw [Oper.semAt_plain F _ _ (by rw [ho]; intro c hc'; cases hc')]
   unfold execOp
   simp only [ho, hx, List.map_toArray, List.map_cons, List.map_nil, Sem.run_bind, hr, Result.andThen_ok, Sem.run_pure]
   exact hK _ _ h
attribute [local irreducible] Sl.v hasBit pw withBit woBit stL tmL nextS outS addS cycL leads shows stepT reachN
set_option maxHeartbeats 4000000 in
theorem append_in (n : Nat) (hn : 4 ≤ n) (Bm r : Nat) (K : List St) (w : World) (hK : K.length ≤ 100000) (hB : w.heap[Bm]? = some (.cells #[.map (some r)] 88)) (hms : MsAt w r K) :
 CallsIn Fence.wide n Try.prog 41 #[.slice none 0 0, .func (.func 42) #[] #[.pointer (some ⟨Bm, 0, none⟩)]] w fun e W' =>
  ∃ (v : Value) (ss : List St), e = .returned v ∧ ss.Perm K ∧ W'.ownsRow w.heap.size 66 68 v ss.length (ss.flatMap stL) ∧ Below w.heap.size w W' := by
 have h1 : 1 ≤ n := by omega
 obtain ⟨i0, hi, hz0, hz1, hz2⟩ := info_parts info_st3
 have HK := Lib.hid hK
 refine callsIn_of_wp_marks Try.func41 rfl trivial ?_ rfl
 simp only [Try.ntmps41, List.size_toArray, List.length_cons, List.length_nil, Nat.reduceAdd, Nat.reduceSub, Array.replicate_succ, Array.replicate_zero, List.push_toArray, List.append_toArray, List.nil_append, List.cons_append]
 gi_wp2
 have bO := Boxed.new w 38 (.slice none 0 0)
 have hB0 : Below w.heap.size w (w.alloc (.cells #[.slice none 0 0] 38)) := (Below.refl _ w).alloc (Nat.le_refl _) _
 refine wpIn_rangeFunc_ownH rfl h1 (gf := 42) (lb := #[.pointer (some ⟨Bm, 0, none⟩)]) rfl trivial (enters_of Try.func42 (by kernel_rfl) rfl)
  (keys_stops (n - 1) (by omega) Bm r K _ (blk_keep hB0 hB) (hms.below hB0)) walksK_t (fun W l o o' hl ho hc hw => walksK_b (w := w) W l o o' (by simp at hl; omega) ho hc hw) (Below.refl _ _) (fun _ => rfl)
  (fun (pre : List St) W => (∃ v, Boxed W w.heap.size 38 v ∧ W.ownsRow w.heap.size 66 68 v pre.length (pre.flatMap stL) ∧ True) ∧ Below w.heap.size w W)
  (fun _ _ _ => False)
  (OwnFrom.and (Own.from (holdsRow_own w.heap.size w.heap.size 38 66 68 (fun pre : List St => pre.length) (fun pre : List St => pre.flatMap stL) (fun (_ : List St) (_ : Value) => True)) _) (ownFrom_below (Nat.le_refl _) (by simp)))
  (fun _ _ _ _ _ hs _ _ => hs)
  ⟨⟨_, bO, World.ownsRow_nil _ _ _ _, trivial⟩, hB0⟩
  (fun x a' W => ∃ g, a' = { tmps := #[.slice none 0 0, .func (.func 42) #[] #[.pointer (some ⟨Bm, 0, none⟩)], .pointer (some ⟨w.heap.size, 0, none⟩), undef, .slice none 0 0, .pointer (some ⟨g, 0, none⟩), .func (.func 42) #[] #[.pointer (some ⟨Bm, 0, none⟩)], .agg (stL x).toArray, undef, undef, undef, undef, undef], defers := [] } ∧ W.heap[g]? = some (.cells (stL x).toArray 66))
  ?hAx ?assign ?body ?done ?stop
 case hAx =>
  rintro x a' s W W' row ⟨g, ha, hg⟩ hgr hr
  refine ⟨g, ha, (hgr.block g (blk_lt hg) (fun e => ?_)).trans hg⟩
  obtain ⟨_, o, ho, hc⟩ := hr g e.symm
  rw [hg] at ho
  injection ho with ho
  rw [← ho] at hc
  cases hc
 case assign =>
  rintro l pre x W KK ⟨⟨v, hv, hrow, _⟩, hB⟩ hKK
  obtain ⟨hst, hq, hbb⟩ := box_st W x
  have HST := Lib.hid hst
  have hfin := hKK _ _ ((show KeepsOthers W _ from ⟨hbb.size, fun j o hj _ => blk_keep hbb hj⟩).from _) (below_walks hbb) ⟨⟨v, blk_keep hbb hv, hrow.kept (below_grown0 hbb) (by cases hv2 : v.ownBlock <;> simp), trivial⟩, hB.trans (hbb.mono hB.size)⟩ ⟨W.heap.size, rfl, hq⟩
  have HF := Lib.hid hfin
  clear hst hfin hq hbb hKK hv hrow hB
  gi_wp2_with (first
   | rw [zero_st]
   | ((with_reducible refine wpListIn_store_is (op := ⟨none, .store 66 _ _, _, _, _, _⟩) rfl 66 _ _ rfl _ _ ?_ ?_ _ HST.out ?_); (· rfl); (· rfl)))
  exact HF.out
 case body =>
  rintro l pre x a' W hl hrec ⟨⟨v, hv, hrow, _⟩, hB⟩ ⟨g, rfl, hg⟩ hlt
  have hc := hv.cell
  have HLD := Lib.hid (load_st hg)
  have HBU := Lib.hid (run_build_st x W)
  gi_wp2_with (first
   | ((with_reducible refine wpListIn_load_is (op := ⟨some 9, _, _, _, _, _⟩) rfl 66 _ rfl _ _ ?_ HLD.out ?_); (· rfl))
   | ((with_reducible refine wpListIn_build_is (op := ⟨some 10, _, _, _, _, _⟩) rfl 38 _ rfl _ _ ?_ _ HBU.out ?_); (· rfl))
   | (gi_at_builtin; refine wpListIn_append_own _ rfl _ _ 38 rfl w.heap.size 66 i0 (.agg (stL zS).toArray) 68 96 Try.underlying38 hi hz0 hz1 hz2 (by rw [Value.cells, List.size_toArray, st_len]) (by decide) _ _ _ rfl (hrow.alloc _) ⟨W.heap.size, 0, none⟩ 1 1 (stL x) rfl (st_len x) (cells_new _ _ _) (st_one x) (by have := HK.out; unfold maxLen; omega) (by have := HK.out; omega) (by have := hB.size; simp; omega) ?_; intro v' w1 hown' hgrow _; obtain ⟨g', cap', rfl⟩ := ownsRow_succ hown'; obtain ⟨hv1, hv2, hr2, hk2, hb2⟩ := hv.appended (by decide) hrow hB.size (Nat.le_refl _) hown' hgrow; have hc1 := hv1.cell; have hf1 := hv1.frozen))
  refine ⟨hk2.from _, hk2.walks, ⟨_, hv2, ?_⟩, hB.trans hb2⟩
  rw [List.flatMap_append, List.flatMap_cons, List.flatMap_nil, List.append_nil, show (pre ++ [x]).length = pre.length + 1 by rw [List.length_append]; rfl]
  first
   | exact hr2
   | exact ⟨hr2, trivial⟩
 case done =>
  rintro D ys W hD hys ⟨⟨v, hv, hrow, _⟩, hB⟩ hK
  have hc := hv.cell
  gi_wp2
  refine ⟨by simp, .inl ⟨_, _, rfl, run_takeDeferred hK, ?_⟩⟩
  exact ⟨_, results_tmp rfl _ _ _, v, ys, rfl, hys, ownsRow_putObj hrow _ hK rfl, hB.trans (belowK_b (w := w) (Nat.le_refl _) W D _ _ (by simp at hD; omega) hK rfl rfl)⟩
 case stop =>
  rintro D c pre W _ _ h _
  exact h.elim
theorem collect_in (n : Nat) (hn : 5 ≤ n) (Bm r : Nat) (K : List St) (w : World) (hK : K.length ≤ 100000) (hB : w.heap[Bm]? = some (.cells #[.map (some r)] 88)) (hms : MsAt w r K) :
 CallsIn Fence.wide n Try.prog 23 #[.func (.func 42) #[] #[.pointer (some ⟨Bm, 0, none⟩)]] w fun e W' =>
  ∃ (v : Value) (ss : List St), e = .returned v ∧ ss.Perm K ∧ W'.ownsRow w.heap.size 66 68 v ss.length (ss.flatMap stL) ∧ Below w.heap.size w W' := by
 have h1 : 1 ≤ n := by omega
 refine callsIn_of_wp Try.func23 rfl trivial ?_ rfl
 simp only [Try.ntmps23, List.size_toArray, List.length_cons, List.length_nil, Nat.reduceAdd, Nat.reduceSub, Array.replicate_succ, Array.replicate_zero, List.push_toArray, List.append_toArray, List.nil_append, List.cons_append]
 gi_wp2
 refine ⟨trivial, ?_⟩
 refine (append_in (n - 1) (by omega) Bm r K _ hK hB hms).mono ?_
 rintro e w' ⟨v, ss, rfl, hss, hrow, hb⟩
 gi_wp2
 go_ret
 exact ⟨v, ss, rfl, hss, hrow, hb⟩
theorem collect_any (Bm r : Nat) (K : List St) (w : World) (hK : K.length ≤ 100000) (hB : w.heap[Bm]? = some (.cells #[.map (some r)] 88)) (hms : MsAt w r K) :
 Calls Try.prog 23 #[.func (.func 42) #[] #[.pointer (some ⟨Bm, 0, none⟩)]] w fun e W' => ∃ (v : Value) (ss : List St), e = .returned v ∧ ss.Perm K ∧ W'.ownsRow w.heap.size 66 68 v ss.length (ss.flatMap stL) ∧ Below w.heap.size w W' :=
 callsIn_wide.1 (collect_in 5 (by omega) Bm r K w hK hB hms)
theorem keys_any (r : Nat) (w : World) : Calls Try.prog 24 #[.map (some r)] w fun e w' => e = .returned (.func (.func 42) #[] #[.pointer (some ⟨w.heap.size, 0, none⟩)]) ∧ w' = w.alloc (.cells #[.map (some r)] 88) := by
 go_enter Try.func24, Try.ntmps24
 go_wp2_with fail
 go_ret
 exact ⟨rfl, rfl⟩
end Go.Proofs.Ytpohoannggdbjaa
