/-
 Layer 10: Step.
-/
import Derived.Test.YtpohoannggdbjaaIxQ
import Derived.Test.YtpohoannggdbjaaMA
namespace Go.Proofs.Ytpohoannggdbjaa
open Go.RowKit
set_option maxRecDepth 100000
theorem rel_build_is {P : Program} {w : World} {F : Value → World → Prop} {r : Operand → Value} {o : Oper} (ty : TypeId) (parts : Array (Nat × Operand)) (ho : o.op = .build ty parts) (vs : Array (Nat × Value)) (hx : parts.map (fun p => (p.1, r p.2)) = vs) (cells : Array Value) (h : P.built ty vs.toList = some cells) (hF : F (.agg cells) w) : relUpon P w F ((execOp r o).run P w) := by
 unfold execOp
 simp only [ho]
 have hx2 : (parts.map fun (x : Nat × Operand) => match x with | (i, x) => (i, r x)) = vs := hx
 rw [hx2]
 simp only [Sem.run_bind, run_build w ty vs cells h, Result.andThen_ok, Sem.run_pure]
 exact ⟨Below.refl _ _, hF⟩
theorem run_load_is {P : Program} {o : Oper} {a : Act} {w : World} (ty : TypeId) (x : Operand) (ho : o.op = .load ty x) {vx v : Value} (hx : a.eval x = vx) (hr : (Instr.loadAt ty vx).run P w = .ok v w) : (execOp a.eval o).run P w = .ok (.value v) w := by
 unfold execOp
 simp only [ho, hx, Sem.run_bind, hr, Result.andThen_ok, Sem.run_pure]
theorem run_store_is {P : Program} {o : Oper} {a : Act} {w w' : World} (ty : TypeId) (x y : Operand) (ho : o.op = .store ty x y) {vx vy : Value} (hx : a.eval x = vx) (hy : a.eval y = vy) (hr : (Instr.storeAt ty vx vy).run P w = .ok () w') : (execOp a.eval o).run P w = .ok .skip w' := by
 unfold execOp
 simp only [ho, hx, hy, Sem.run_bind, hr, Result.andThen_ok, Sem.run_pure]
theorem wp_run_skip {P : Program} {o : Oper} {a : Act} {w w' : World} {K : Act → World → Prop} {Q : Exit → Act → World → Prop} (hr : (execOp a.eval o).run P w = .ok .skip w') (h : K (a.put o.dst undef) w') : o.wp P a w K Q := by
 unfold Oper.wp
 rw [hr]
 exact h
theorem wpList_build_is {P : Program} {ops : Array Oper} {rest : List Oper} {op : Oper} {a : Act} {w : World} {Q : Exit → Act → World → Prop} (hgd : op.guard = none) (ty : TypeId) (ho : op.op = .build ty #[]) (cells : Array Value)
 (hr : P.built ty [] = some cells) (h : wpList P ops Q rest (a.put op.dst (.agg cells)) w) : wpList P ops Q (op :: rest) a w :=
 wpList_plain hgd fun K hK => by
  unfold Oper.wp execOp
  have hb : (Instr.build ty #[]).run P w = .ok (.agg cells) w := run_build w ty #[] cells hr
  simp only [ho, List.map_toArray, List.map_nil, Sem.run_bind, hb, Result.andThen_ok, Sem.run_pure]
  exact hK _ _ h
theorem built_zero : Try.prog.built 66 [] = some (stL zS).toArray := by kernel_rfl
theorem built_cy (m : Nat) (s : St) (i : Inp) : Try.prog.built 84 [(0, .pointer (some ⟨m, 0, none⟩)), (1, .agg (stL s).toArray), (2, .agg #[.int .u64 (i.oc : Int), .int .u32 (i.no : Int), .int .u32 (i.re : Int), i.cm])] = some (cyL m s i 0).toArray := by
 unfold stL cyL tmL
 kernel_rfl
theorem results_cells2 {P : Program} {fn : Func} {p q : Tmp} {ty tz : TypeId} (h : fn.results = #[.cell p ty, .cell q tz]) (tmps : Array Value) (w : World) (g g' : Nat) (t t' : TypeId) (cs ds : Array Value) (fr fr' : Nat × Nat) (d d' : TypeDesc)
 (hp : tmps.getD p undef = .pointer (some ⟨g, 0, none⟩)) (hg : w.heap[g]? = some (.cells cs t fr))
 (hu : P.underlying ty = some d) (hd : (match d with | .struct _ | .array _ _ => true | _ => false) = true) (hi : (P.info? ty).map (·.size) = some cs.size)
 (hp' : tmps.getD q undef = .pointer (some ⟨g', 0, none⟩)) (hg' : w.heap[g']? = some (.cells ds t' fr'))
 (hu' : P.underlying tz = some d') (hd' : (match d' with | .struct _ | .array _ _ => true | _ => false) = true) (hi' : (P.info? tz).map (·.size) = some ds.size) :
 (results fn tmps).run P w = .ok (.tuple #[.agg cs, .agg ds]) w := by
 have h1 : tmps[p]?.getD undef = .pointer (some ⟨g, 0, none⟩) := by simpa using hp
 have h2 : tmps[q]?.getD undef = .pointer (some ⟨g', 0, none⟩) := by simpa using hp'
 simp [results, h, h1, h2, asAddr, run_loadVar_row w g t ty cs fr d hg hu hd hi, run_loadVar_row w g' t' tz ds fr' d' hg' hu' hd' hi']
theorem info_out : (Try.prog.info? 35).map (·.size) = some 2 := by kernel_rfl
theorem Cy.putU {w : World} {g m : Nat} {M : Mc} {s : St} {i : Inp} {u : Nat} (h : Cy w g m M s i u) (x : Nat) (hx : x < 18446744073709551616) :
 Cy (w.setCell ⟨g, 73, none⟩ (.int .u64 (x : Int))) g m M s i x ∧ Below g w (w.setCell ⟨g, 73, none⟩ (.int .u64 (x : Int))) := by
 have hb : Below g w (w.setCell ⟨g, 73, none⟩ (.int .u64 (x : Int))) := (Below.refl g w).setCell (p := ⟨g, 73, none⟩) (Nat.le_refl _) _
 have hz := ((Only.refl g w).setCell (p := ⟨g, 73, none⟩) rfl (.int .u64 (x : Int))).size
 exact ⟨⟨h.mach.step (wx_ge hb hz), h.tb, (blk_set h.blk 73 _).trans (congrArg (fun C => some (Obj.cells C 84)) (cs_us _ _ _ _ _)), h.sok, h.iok, hx⟩, hb⟩
theorem Cy.at_ {w w' : World} {g h m : Nat} {M : Mc} {s : St} {i : Inp} {u : Nat} (hc : Cy w g m M s i u) (hw : WX (fun b => b = h) w w') (hg : g < h) : Cy w' g m M s i u :=
 ⟨hc.mach.step (hw.mono (fun b e => by omega)), hc.tb, hw.keep (by omega) hc.blk, hc.sok, hc.iok, hc.uok⟩
theorem keep_g {g k : Nat} {w w' : World} {o : Obj} (h : Below g w w') (hk : k < g) (hq : w.heap[k]? = some o) : w'.heap[k]? = some o := (h.block k hk).trans hq
theorem below_w {B g : Nat} {w w' : World} (h : Below g w w') (hB : B ≤ g) : Below B w w' := ⟨h.os, h.tape, h.output, h.size, fun k hk => h.block k (by omega)⟩
theorem cy_st (m : Nat) (s : St) (i : Inp) (u : Nat) : cyL m s i u = .pointer (some ⟨m, 0, none⟩) :: (stL s ++ (inL i ++ [.int .u64 (u : Int)])) := by
 unfold cyL stL inL
 simp
theorem load_cy {w : World} {g m : Nat} {s : St} {i : Inp} {u : Nat} {t : TypeId} {fr : Nat × Nat} (h : w.heap[g]? = some (.cells (cyL m s i u).toArray t fr)) : (Instr.loadAt 66 (.pointer (some ⟨g, 1, none⟩))).run Try.prog w = .ok (.agg (stL s).toArray) w := by
 refine run_loadAt_mid w g 1 66 (stL s) _ (fun j v hv => ?_) Try.underlying66 rfl (by rw [st_len]; exact info_st)
 refine blk_cell h (1 + j) v ?_
 rw [List.getElem?_toArray, cy_st, Nat.add_comm, List.getElem?_cons_succ, List.getElem?_append_left (List.getElem?_eq_some_iff.1 hv).1]
 exact hv
theorem WX.below' {g h : Nat} {w w' : World} (k : WX (fun b => b = h) w w') (hg : g < h) (hs : g ≤ w.heap.size) : Below g w w' := ⟨k.os, k.tape, k.output, k.size, fun i hi => k.block i (by omega) (by omega)⟩
theorem blk_only {g k : Nat} {w w' : World} {o : Obj} (h : Only g w w') (hk : k ≠ g) (hb : w.heap[k]? = some o) : w'.heap[k]? = some o := h.keep hk hb
theorem coms_zero (can : St → Nat → Nat → Rw → St) (T : Tb) (oc : Nat) (l : List (Nat × Int)) (s : St) : comsG can T oc (l.take 0) s = s := rfl
theorem coms_succ {can : St → Nat → Nat → Rw → St} {T : Tb} {oc : Nat} {l : List (Nat × Int)} {k : Nat} {c : Nat × Int} (h : l[k]? = some c) (s : St) : comsG can T oc (l.take (k + 1)) s = comG can T (comsG can T oc (l.take k) s) oc c := by
 unfold comsG
 rw [List.take_add_one, h, List.foldl_append]
 rfl
theorem rous_zero (T : Tb) (oc u : Nat) (s : St) : rousS T oc u s 0 = s := rfl
theorem rous_no {T : Tb} {oc u : Nat} {s : St} {k : Nat} (h : hasBit (rousS T oc u s k).lk k = false) : rousS T oc u s (k + 1) = rousS T oc u s k := by
 show (if hasBit (rousS T oc u s k).lk k then _ else _) = _
 rw [h]; rfl
theorem rous_yes {T : Tb} {oc u : Nat} {s : St} {k : Nat} {x : Rw} (h : hasBit (rousS T oc u s k).lk k = true) (hx : T.rw[k]? = some x) : rousS T oc u s (k + 1) = rouS (rousS T oc u s k) oc u k x := by
 show (if hasBit (rousS T oc u s k).lk k then _ else _) = _
 rw [h, hx]; rfl
theorem pros_zero (T : Tb) (s : St) (oc a b : Nat) : prosS T s oc a b 0 = 0 := rfl
theorem pros_no {T : Tb} {s : St} {oc a b k : Nat} {x : Rw} (hx : T.rw[k]? = some x) (h : proS s oc a b k x = false) : prosS T s oc a b (k + 1) = prosS T s oc a b k := by
 show (if _ then _ else _) = _
 rw [hx]
 show (if proS s oc a b k x then _ else _) = _
 rw [h]; rfl
theorem pros_yes {T : Tb} {s : St} {oc a b k : Nat} {x : Rw} (hx : T.rw[k]? = some x) (h : proS s oc a b k x = true) : prosS T s oc a b (k + 1) = withBit (prosS T s oc a b k) k := by
 show (if _ then _ else _) = _
 rw [hx]
 show (if proS s oc a b k x then _ else _) = _
 rw [h]; rfl
theorem pros_lt (T : Tb) (s : St) (oc a b : Nat) : ∀ k, k ≤ 64 → prosS T s oc a b k < 18446744073709551616
 | 0, _ => by show (0 : Nat) < _; omega
 | k + 1, hk => by
   have ih := pros_lt T s oc a b k (by omega)
   show (if _ then _ else _) < _
   split
   ·exact withBit_lt _ _ (by omega) ih
   ·exact ih
theorem next_is (T : Tb) (s : St) (oc : Nat) (l : List (Nat × Int)) : nextS T s oc l = rousS T oc (tidyS T.rw.length T.li.length s).us (comsG canS T oc (l.take 8) (tidyS T.rw.length T.li.length s)) T.rw.length := rfl
theorem out_is (T : Tb) (t : St) (oc n r : Nat) : outS T t oc n r = prosS T t oc (sideN n r) (sideN r n) T.rw.length := rfl
theorem cmds_ok {w : World} {a : Option Addr} {l : List (Nat × Int)} (h : CmdsAt w a l) {k : Nat} {c : Nat × Int} (hk : l[k]? = some c) : c.1 ≤ 255 := by
 have := (h.1 c (List.mem_of_getElem? hk)).1; omega
attribute [local irreducible] Sl.v hasBit pw withBit woBit cyL stL stV tmL freeS ndBad maySet ptL setS mayCan canS canD nedS flipB mayMov movS comG relS rouS proS tidyS comsG rousS prosS nextG outS lnOk rightK rgtS eqS Mc.tb upd mayS checkS sideN
set_option maxHeartbeats 8000000 in
theorem step_nil (s : St) (i : Inp) (ca : Option Addr) (cn cc : Nat) (w : World) :
 Calls Try.prog 11 #[.pointer none, .agg (stL s).toArray, .agg #[.int .u64 (i.oc : Int), .int .u32 (i.no : Int), .int .u32 (i.re : Int), .slice ca cn cc]] w fun e w' => e = .returned (.tuple #[.agg (stL zS).toArray, .agg #[.int .u64 0, .int .u32 0]]) ∧ Below w.heap.size w w' := by
 go_enter Try.func11, Try.ntmps11
 go_upto_region 2 with fail
 rw [zero_st]
 refine name_last (os := [.cells (stL s).toArray 66, .cells #[.int .u64 (i.oc : Int), .int .u32 (i.no : Int), .int .u32 (i.re : Int), .slice ca cn cc] 49, .cells (stL zS).toArray 66, .cells #[.int .u64 0, .int .u32 0] 35]) (w0 := w) rfl ?_
 intro W hat hbw
 obtain ⟨g4, hg4⟩ : ∃ g, g = w.heap.size := ⟨_, rfl⟩
 obtain ⟨g5, hg5⟩ : ∃ g, g = g4 + 1 := ⟨_, rfl⟩
 obtain ⟨g6, hg6⟩ : ∃ g, g = g5 + 1 := ⟨_, rfl⟩
 obtain ⟨g7, hg7⟩ : ∃ g, g = g6 + 1 := ⟨_, rfl⟩
 have q0 := hat 0 _ rfl
 have q1 := hat 1 _ rfl
 have q2 := hat 2 _ rfl
 have q3 := hat 3 _ rfl
 rw [Nat.add_zero, ← hg4] at q0
 rw [← hg4, ← hg5] at q1
 rw [← hg4, show g4 + 2 = g6 by omega] at q2
 rw [← hg4, show g4 + 3 = g7 by omega] at q3
 rw [← hg4, ← hg5, ← hg6, ← hg7]
 have HQ4 := Lib.hid q0
 have HQ5 := Lib.hid q1
 have HQ6 := Lib.hid q2
 have HQ7 := Lib.hid q3
 have HBW := Lib.hid hbw
 have HG : Hid (w.heap.size ≤ g6 ∧ w.heap.size ≤ g7 ∧ g6 ≠ g7) := Lib.hid (by omega)
 clear hat hbw q0 q1 q2 q3 hg4 hg5 hg6 hg7
 obtain ⟨hst, hq9, ho9⟩ := store_st (s' := zS) HQ6.out
 have HST := Lib.hid hst
 have HQ9 := Lib.hid hq9
 have HQ97 := Lib.hid (blk_only ho9 (fun e => HG.out.2.2 e.symm) HQ7.out)
 have HB9 : Hid (Below w.heap.size w (W.setCells g6 0 (stL zS))) := Lib.hid (Only.below HBW.out HG.out.1 HBW.out.size ho9)
 obtain ⟨V, hV⟩ : ∃ V, V = W.setCells g6 0 (stL zS) := ⟨_, rfl⟩
 rw [← hV] at HST HQ9 HQ97 HB9
 clear hst hq9 ho9 hV
 have z0 := blk_cell HQ97.out 0 _ rfl
 have y0 := blk_free HQ97.out 0
 have z1 := blk_cell HQ97.out 1 _ rfl
 have y1 := blk_free HQ97.out 1
 have hl7 := blk_lt HQ97.out
 go_wp2_with (first
  | (refine wpList_build_is (op := ⟨some 16, _, _, _, _, _⟩) rfl 66 rfl _ built_zero ?_)
  | (refine wpList_store_is (op := ⟨none, .store 66 _ _, _, _, _, _⟩) rfl 66 _ _ rfl _ _ rfl rfl _ HST.out ?_))
 (try simp only [Exit.inBlock, Exit.then])
 refine name_any ?_
 intro WZ hWZ
 have ho : Only g7 V WZ := by rw [hWZ]; exact ((Only.refl g7 V).setCell rfl _).setCell rfl _
 have h7 : WZ.heap[g7]? = some (.cells #[.int .u64 0, .int .u32 0] 35) := by rw [hWZ]; exact blk_set (blk_set HQ97.out 0 _) 1 _
 have h6 : WZ.heap[g6]? = some (.cells (stL zS).toArray 66) := blk_only ho HG.out.2.2 HQ9.out
 have hbz : Below w.heap.size w WZ := Only.below HB9.out HG.out.2.1 HB9.out.size ho
 clear hWZ
 refine bodyPost_ret (results_cells2 rfl _ _ g6 g7 66 35 (stL zS).toArray #[.int .u64 0, .int .u32 0] (0, 0) (0, 0) _ _ rfl h6 Try.underlying66 rfl (by rw [List.size_toArray, st_len]; exact info_st) rfl h7 Try.underlying35 rfl info_out) rfl ?_
 exact ⟨rfl, hbz⟩
end Go.Proofs.Ytpohoannggdbjaa
