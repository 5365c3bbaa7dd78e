/-
 Layer 28: Run.
-/
import Derived.Test.YtpohoannggdbjaaMoH
import Derived.Test.YtpohoannggdbjaaRelT
namespace Go.Proofs.Ytpohoannggdbjaa
open Go.RowKit
set_option maxRecDepth 100000
/-- the states of a run -/
def runS (T : Tb) (X : List Iv) : Nat → St
 | 0 => zSt
 | i + 1 => match X[i]? with
   | some x => stepT T x (runS T X i)
   | none => runS T X i
theorem run_zero (T : Tb) (X : List Iv) : runS T X 0 = zSt := rfl
theorem run_succ {T : Tb} {X : List Iv} {i : Nat} {x : Iv} (hx : X[i]? = some x) : runS T X (i + 1) = stepT T x (runS T X i) := by
 show (match X[i]? with
  | some x => stepT T x (runS T X i)
  | none => runS T X i) = _
 rw [hx]
/-- the output of a cycle -/
def outL (T : Tb) (X : List Iv) (i : Nat) : List Value := match X[i]? with
 | some x => [.int .u64 (outS T (runS T X (i + 1)) x.oc x.no x.re : Int), .int .u32 ((runS T X (i + 1)).pt : Int)]
 | none => [.int .u64 0, .int .u32 0]
theorem outL_at {T : Tb} {X : List Iv} {i : Nat} {x : Iv} (hx : X[i]? = some x) : outL T X i = [.int .u64 (outS T (stepT T x (runS T X i)) x.oc x.no x.re : Int), .int .u32 ((stepT T x (runS T X i)).pt : Int)] := by
 unfold outL
 rw [hx, run_succ hx]
def stR (T : Tb) (X : List Iv) (i : Nat) : List Value := (List.range i).flatMap (fun j => stL (runS T X (j + 1)))
def ouR (T : Tb) (X : List Iv) (i : Nat) : List Value := (List.range i).flatMap (fun j => outL T X j)
theorem stR_succ (T : Tb) (X : List Iv) (i : Nat) : stR T X (i + 1) = stR T X i ++ stL (runS T X (i + 1)) := by
 unfold stR
 rw [List.range_succ, List.flatMap_append, List.flatMap_cons, List.flatMap_nil, List.append_nil]
theorem ouR_succ (T : Tb) (X : List Iv) (i : Nat) : ouR T X (i + 1) = ouR T X i ++ outL T X i := by
 unfold ouR
 rw [List.range_succ, List.flatMap_append, List.flatMap_cons, List.flatMap_nil, List.append_nil]
theorem stR_len (T : Tb) (X : List Iv) : ∀ i, (stR T X i).length = i * 68
 | 0 => rfl
 | i + 1 => by rw [stR_succ, List.length_append, stR_len T X i, st_len]; omega
theorem outL_len (T : Tb) (X : List Iv) (i : Nat) : (outL T X i).length = 2 := by unfold outL; cases X[i]? <;> rfl
theorem ouR_len (T : Tb) (X : List Iv) : ∀ i, (ouR T X i).length = i * 2
 | 0 => rfl
 | i + 1 => by rw [ouR_succ, List.length_append, ouR_len T X i, outL_len]; omega
theorem stR_zero (T : Tb) (X : List Iv) : stR T X 0 = [] := rfl
theorem ouR_zero (T : Tb) (X : List Iv) : ouR T X 0 = [] := rfl
theorem stepT_ok {T : Tb} (hT : TbOk T) {s : St} (h : s.ok) (x : Iv) : (stepT T x s).ok := nextS_ok hT h x.oc x.cl
theorem only_sets {g : Nat} (vs : List Value) : ∀ (o : Nat) (w : World), Only g w (w.setCells g o vs) := by
 induction vs with
 | nil => intro o w; exact Only.refl g w
 | cons v vs ih => intro o w; exact ((Only.refl g w).setCell (p := ⟨g, o, none⟩) rfl v).trans (ih _ _)
theorem set_mid {w : World} {b : Nat} {t : TypeId} {fr : Nat × Nat} (tl : List Value) : ∀ (vs pre old : List Value), old.length = vs.length → w.heap[b]? = some (.cells (pre ++ (old ++ tl)).toArray t fr) → (w.setCells b pre.length vs).heap[b]? = some (.cells (pre ++ (vs ++ tl)).toArray t fr)
 | [], pre, old, hl, h => by
   have : old = [] := List.length_eq_zero_iff.1 hl
   subst this
   exact h
 | v :: vs, pre, [], hl, h => by cases hl
 | v :: vs, pre, o :: old, hl, h => by
   show ((w.setCell ⟨b, pre.length, none⟩ v).setCells b (pre.length + 1) vs).heap[b]? = _
   have h1 := blk_set h pre.length v
   rw [List.setIfInBounds_toArray] at h1
   have h2 : (pre ++ (o :: old ++ tl)).set pre.length v = (pre ++ [v]) ++ (old ++ tl) := by
    rw [List.set_append, if_neg (by omega), Nat.sub_self, List.append_assoc]; rfl
   rw [h2] at h1
   have h3 := set_mid (w := w.setCell ⟨b, pre.length, none⟩ v) tl vs (pre ++ [v]) old (by simpa using hl) h1
   rw [List.length_append] at h3
   rw [show pre ++ (v :: vs ++ tl) = pre ++ [v] ++ (vs ++ tl) by rw [List.append_assoc]; rfl]
   exact h3
theorem store_mid {w : World} {b : Nat} {t ty : TypeId} (pre rest new : List Value) (h : w.heap[b]? = some (.cells (pre ++ rest).toArray t)) (hl : new.length ≤ rest.length) (hi : (Try.prog.info? ty).map (·.size) = some new.length) (h1 : ∀ u ∈ new, u.oneCell' = true) :
 (Instr.storeAt ty (.pointer (some ⟨b, pre.length, none⟩)) (.agg new.toArray)).run Try.prog w = .ok () (w.setCells b pre.length new) ∧ (w.setCells b pre.length new).heap[b]? = some (.cells (pre ++ new ++ rest.drop new.length).toArray t) ∧ Only b w (w.setCells b pre.length new) := by
 have hz : new.toArray.size = new.length := List.size_toArray
 refine ⟨?_, ?_, only_sets _ _ _⟩
 ·refine run_storeAt_mid w b pre.length ty new.toArray (fun j hj => ?_) (by rw [hz]; exact hi) (all_oneCell_toArray h1)
  rw [hz] at hj
  refine ⟨?_, blk_free h _⟩
  rw [blk_cell h (pre.length + j) _ (by rw [List.getElem?_toArray]; exact List.getElem?_eq_getElem (by rw [List.length_append]; omega))]
  rfl
 ·have h2 := set_mid (w := w) (b := b) (t := t) (rest.drop new.length) new pre (rest.take new.length) (by rw [List.length_take]; omega) (by rw [List.take_append_drop]; exact h)
  rw [← List.append_assoc] at h2
  exact h2
theorem info_ou : (Try.prog.info? 35).map (·.size) = some 2 := by kernel_rfl
theorem info_ou3 : (Try.prog.info? 35).map (fun i => (i.zero, i.size, i.bytes)) = some (some (.agg #[.int .u64 0, .int .u32 0]), 2, 16) := by kernel_rfl
theorem made_st (n : Nat) (h : n ≤ 1000) : ∃ C : List Value, C.length = n * 68 ∧ ∀ w, (Instr.makeSlice 38 (.int .i64 (n : Int)) (.int .i64 (n : Int))).run Try.prog w = .ok (.slice (some ⟨w.heap.size, 0, none⟩) n n) (w.alloc (.cells C.toArray 66)) := by
 obtain ⟨i0, hi, hz0, hz1, hz2⟩ := info_parts info_st3
 refine ⟨(madeCells (Value.agg (stL zS).toArray).cells (n * 68)).toList, by rw [Array.length_toList]; exact size_madeCells _ _, fun w => ?_⟩
 have := run_makeSlice (P := Try.prog) (w := w) 38 66 i0 (.agg (stL zS).toArray) Try.underlying38 hi hz0 .i64 .i64 n n (by omega) (by omega) (by rw [hz1]; omega) (by rw [hz2]; omega) (by omega)
 rw [hz1, Int.toNat_natCast] at this
 exact this
theorem made_ou (n : Nat) (h : n ≤ 1000) : ∃ C : List Value, C.length = n * 2 ∧ ∀ w, (Instr.makeSlice 39 (.int .i64 (n : Int)) (.int .i64 (n : Int))).run Try.prog w = .ok (.slice (some ⟨w.heap.size, 0, none⟩) n n) (w.alloc (.cells C.toArray 35)) := by
 obtain ⟨i0, hi, hz0, hz1, hz2⟩ := info_parts info_ou3
 refine ⟨(madeCells (Value.agg #[.int .u64 0, .int .u32 0]).cells (n * 2)).toList, by rw [Array.length_toList]; exact size_madeCells _ _, fun w => ?_⟩
 have := run_makeSlice (P := Try.prog) (w := w) 39 35 i0 (.agg #[.int .u64 0, .int .u32 0]) Try.underlying39 hi hz0 .i64 .i64 n n (by omega) (by omega) (by rw [hz1]; omega) (by rw [hz2]; omega) (by omega)
 rw [hz1, Int.toNat_natCast] at this
 exact this
theorem ne_kind {w : World} {g h : Nat} {a b : Array Value} {s t : TypeId} {f k : Nat × Nat} (h1 : w.heap[g]? = some (.cells a s f)) (h2 : w.heap[h]? = some (.cells b t k)) (hs : s ≠ t) : g ≠ h := by
 rintro rfl
 rw [h1] at h2
 cases h2
 exact hs rfl
theorem rel_make {P : Program} {r : Operand → Value} {w : World} {F : Value → World → Prop} {o : Oper} (t : TypeId) (x y : Operand) (ho : o.op = .makeSlice t x y) (vx vy v : Value) (hx : r x = vx) (hy : r y = vy) (w' : World) (hr : (Instr.makeSlice t vx vy).run P w = .ok v w') (hb : Below w.heap.size w w') (h : F v w') : relUpon P w F ((execOp r o).run P w) := by
 unfold execOp
 simp only [ho, hx, hy, Sem.run_bind, hr, Result.andThen_ok, Sem.run_pure]
 exact ⟨hb, h⟩
attribute [local irreducible] Sl.v hasBit pw withBit woBit cyL stL stV tmL freeS ndBad maySet ptL setS mayCan canS canD nedS flipB mayMov movS comG relS rouS proS tidyS comsG rousS prosS nextG outS lnOk rightK rgtS eqS Mc.tb upd mayS checkS sideN
attribute [local irreducible] addS cycL leads shows stepT reachN
attribute [local irreducible] tbL rwL secOf cofL zS zSt explS fewS weightS runS stR ouR outL
set_option maxHeartbeats 8000000 in
theorem run_no (L : Lay) (ra : Option Addr) (n rc : Nat) (w : World) (hL : LayAt w L) (c : Int) (hc : (checkS L).1 = c) (h0 : ¬ c = 0) :
 Calls Try.prog 6 #[.agg #[L.se.v, L.po.v, L.sg.v, L.rt.v], .slice ra n rc] w fun e w' => e = .returned (.tuple #[.slice none 0 0, .slice none 0 0, .int .i64 c]) ∧ Below w.heap.size w w' := by
 have KN : Hid (∀ V, Below w.heap.size w V → Calls Try.prog 10 #[.agg #[L.se.v, L.po.v, L.sg.v, L.rt.v]] V fun e w' => e = .returned (.tuple #[.pointer none, .int .i64 c]) ∧ Below V.heap.size V w') := Lib.hid (fun V hV => new_no L c V (hL.below hV) hc h0)
 have cn : (c != 0) = true := by rw [bne_iff_ne]; exact h0
 clear hc h0
 obtain ⟨n1, hn1⟩ : ∃ n, L.se.l.length = n := ⟨_, rfl⟩
 obtain ⟨n2, hn2⟩ : ∃ n, L.po.l.length = n := ⟨_, rfl⟩
 obtain ⟨n3, hn3⟩ : ∃ n, L.sg.l.length = n := ⟨_, rfl⟩
 obtain ⟨n4, hn4⟩ : ∃ n, L.rt.l.length = n := ⟨_, rfl⟩
 rw [slv hn1, slv hn2, slv hn3, slv hn4] at KN ⊢
 clear hn1 hn2 hn3 hn4 hL
 go_enter Try.func6, Try.ntmps6
 go_upto_region 1 with fail
 refine name_last (os := [.cells #[.slice L.se.a n1 L.se.c, .slice L.po.a n2 L.po.c, .slice L.sg.a n3 L.sg.c, .slice L.rt.a n4 L.rt.c] 27]) (w0 := w) rfl ?_
 intro W hat hbw
 obtain ⟨gl, hgl⟩ : ∃ g, g = w.heap.size := ⟨_, rfl⟩
 have q0 := hat 0 _ rfl
 rw [Nat.add_zero, ← hgl] at q0
 rw [← hgl]
 have HQl := Lib.hid q0
 have HB0 := Lib.hid hbw
 clear hat hbw q0 hgl
 have l0 := blk_cell HQl.out 0 _ rfl
 have l1 := blk_cell HQl.out 1 _ rfl
 have l2 := blk_cell HQl.out 2 _ rfl
 have l3 := blk_cell HQl.out 3 _ rfl
 go_wp2_with fail
 refine (KN.out _ HB0.out).mono ?_
 rintro e w1 ⟨rfl, hb1⟩
 have HB1 := Lib.hid (below_on HB0.out hb1)
 clear hb1 l0 l1 l2 l3
 go_wp2_with fail
 go_ret3
 exact ⟨rfl, HB1.out⟩
set_option maxHeartbeats 8000000 in
theorem run_big (L : Lay) (ra : Option Addr) (n rc : Nat) (w : World) (hL : LayAt w L) (hc : (checkS L).1 = 0) (hn : 400 < n) :
 Calls Try.prog 6 #[.agg #[L.se.v, L.po.v, L.sg.v, L.rt.v], .slice ra n rc] w fun e w' => e = .returned (.tuple #[.slice none 0 0, .slice none 0 0, .int .i64 3]) ∧ Below w.heap.size w w' := by
 have KN : Hid (∀ V, Below w.heap.size w V → Calls Try.prog 10 #[.agg #[L.se.v, L.po.v, L.sg.v, L.rt.v]] V fun e w' => ∃ m M, e = .returned (.tuple #[.pointer (some ⟨m, 0, none⟩), .int .i64 0]) ∧ MachX (fun b => b < w.heap.size) w' m M ∧ M.tb = tbL L ∧ M.pt = pw M.li.l.length - 1 ∧ Below V.heap.size V w') := Lib.hid (fun V hV => (new_is L V (hL.below hV) hc).mono (fun _ _ ⟨m, M, e1, e2, e3, e4, e5⟩ => ⟨m, M, e1, e2.weak (fun b _ hb => Nat.lt_of_lt_of_le hb hV.size), e3, by rw [e4, li_po e3], e5⟩))
 have d : (400 : Int) < (n : Int) := by omega
 clear hc hn
 obtain ⟨n1, hn1⟩ : ∃ n, L.se.l.length = n := ⟨_, rfl⟩
 obtain ⟨n2, hn2⟩ : ∃ n, L.po.l.length = n := ⟨_, rfl⟩
 obtain ⟨n3, hn3⟩ : ∃ n, L.sg.l.length = n := ⟨_, rfl⟩
 obtain ⟨n4, hn4⟩ : ∃ n, L.rt.l.length = n := ⟨_, rfl⟩
 rw [slv hn1, slv hn2, slv hn3, slv hn4] at KN ⊢
 clear hn1 hn2 hn3 hn4 hL
 go_enter Try.func6, Try.ntmps6
 go_upto_region 1 with fail
 refine name_last (os := [.cells #[.slice L.se.a n1 L.se.c, .slice L.po.a n2 L.po.c, .slice L.sg.a n3 L.sg.c, .slice L.rt.a n4 L.rt.c] 27]) (w0 := w) rfl ?_
 intro W hat hbw
 obtain ⟨gl, hgl⟩ : ∃ g, g = w.heap.size := ⟨_, rfl⟩
 have q0 := hat 0 _ rfl
 rw [Nat.add_zero, ← hgl] at q0
 rw [← hgl]
 have HQl := Lib.hid q0
 have HB0 := Lib.hid hbw
 clear hat hbw q0 hgl
 have l0 := blk_cell HQl.out 0 _ rfl
 have l1 := blk_cell HQl.out 1 _ rfl
 have l2 := blk_cell HQl.out 2 _ rfl
 have l3 := blk_cell HQl.out 3 _ rfl
 go_wp2_with fail
 refine (KN.out _ HB0.out).mono ?_
 rintro e w1 ⟨m, M, rfl, h1, h2, h3, hb1⟩
 have HB1 := Lib.hid (below_on HB0.out hb1)
 clear hb1 l0 l1 l2 l3 h1 h2 h3
 go_wp2_with fail
 go_ret3
 exact ⟨rfl, HB1.out⟩
set_option maxHeartbeats 16000000 in
theorem run_is (L : Lay) (ra : Option Addr) (n rc : Nat) (X : List Iv) (w : World) (hL : LayAt w L) (hX : RowAt 4 ivC w ra X) (hxn : X.length = n) (hxo : ∀ x ∈ X, IvOk w x ∧ x.len ≤ 100000) (h4 : n ≤ 400) (hc : (checkS L).1 = 0) :
 Calls Try.prog 6 #[.agg #[L.se.v, L.po.v, L.sg.v, L.rt.v], .slice ra n rc] w fun e w' => ∃ gS gO, e = .returned (.tuple #[.slice (some ⟨gS, 0, none⟩) n n, .slice (some ⟨gO, 0, none⟩) n n, .int .i64 0]) ∧ w'.heap[gS]? = some (.cells (stR (tbL L) X n).toArray 66) ∧ w'.heap[gO]? = some (.cells (ouR (tbL L) X n).toArray 35) ∧ Below w.heap.size w w' := by
 have KN : Hid (∀ V, Below w.heap.size w V → Calls Try.prog 10 #[.agg #[L.se.v, L.po.v, L.sg.v, L.rt.v]] V fun e w' => ∃ m M, e = .returned (.tuple #[.pointer (some ⟨m, 0, none⟩), .int .i64 0]) ∧ MachX (fun b => b < w.heap.size) w' m M ∧ M.tb = tbL L ∧ M.pt = pw M.li.l.length - 1 ∧ Below V.heap.size V w') := Lib.hid (fun V hV => (new_is L V (hL.below hV) hc).mono (fun _ _ ⟨m, M, e1, e2, e3, e4, e5⟩ => ⟨m, M, e1, e2.weak (fun b _ hb => Nat.lt_of_lt_of_le hb hV.size), e3, by rw [e4, li_po e3], e5⟩))
 obtain ⟨T, hT⟩ : ∃ T, tbL L = T := ⟨_, rfl⟩
 have HTB : Hid (TbOk T) := Lib.hid (hT ▸ tbl_ok hc)
 rw [hT] at KN ⊢
 have HXR := Lib.hid hX
 have HXN := Lib.hid hxn
 have HXO := Lib.hid hxo
 have HN4 := Lib.hid h4
 have d : ¬ (400 : Int) < (n : Int) := by omega
 obtain ⟨CS, hcs, hms⟩ := made_st n (by omega)
 obtain ⟨CO, hco, hmo⟩ := made_ou n (by omega)
 have HCS := Lib.hid hms
 have HCO := Lib.hid hmo
 have HCL := Lib.hid (And.intro hcs hco)
 clear hc hX hxn hxo h4 hT hcs hms hco hmo
 obtain ⟨n1, hn1⟩ : ∃ n, L.se.l.length = n := ⟨_, rfl⟩
 obtain ⟨n2, hn2⟩ : ∃ n, L.po.l.length = n := ⟨_, rfl⟩
 obtain ⟨n3, hn3⟩ : ∃ n, L.sg.l.length = n := ⟨_, rfl⟩
 obtain ⟨n4, hn4⟩ : ∃ n, L.rt.l.length = n := ⟨_, rfl⟩
 rw [slv hn1, slv hn2, slv hn3, slv hn4] at KN ⊢
 clear hn1 hn2 hn3 hn4 hL
 go_enter Try.func6, Try.ntmps6
 go_upto_region 1 with fail
 refine name_last (os := [.cells #[.slice L.se.a n1 L.se.c, .slice L.po.a n2 L.po.c, .slice L.sg.a n3 L.sg.c, .slice L.rt.a n4 L.rt.c] 27]) (w0 := w) rfl ?_
 intro W hat hbw
 obtain ⟨gl, hgl⟩ : ∃ g, g = w.heap.size := ⟨_, rfl⟩
 have q0 := hat 0 _ rfl
 rw [Nat.add_zero, ← hgl] at q0
 rw [← hgl]
 have HQl := Lib.hid q0
 have HB0 := Lib.hid hbw
 clear hat hbw q0 hgl
 have l0 := blk_cell HQl.out 0 _ rfl
 have l1 := blk_cell HQl.out 1 _ rfl
 have l2 := blk_cell HQl.out 2 _ rfl
 have l3 := blk_cell HQl.out 3 _ rfl
 go_wp2_with fail
 refine (KN.out _ HB0.out).mono ?_
 rintro e w1 ⟨m, M, rfl, h1, h2, h3, hb1⟩
 have HB1 := Lib.hid (below_on HB0.out hb1)
 have HM := Lib.hid (And.intro (mach_low h1) (And.intro h2 h3))
 clear hb1 l0 l1 l2 l3 h1 h2 h3
 go_upto_region 6 with fail
 clear d
 refine wp_region_rel (by kernel_rfl) [7] 10 [0, 1, 2, 3, 4, 5, 6] [27, 28, 29, 30, 31, 32, 9] #[true, true, true, true, true, true, true, false] 1 [(fun v _ => v = .slice ra n rc), (fun v _ => v = .int .i64 (n : Int)), (fun v V => ∃ g, v = .slice (some ⟨g, 0, none⟩) n n ∧ w1.heap.size ≤ g ∧ V.heap[g]? = some (.cells CS.toArray 66)), (fun v _ => v = .slice ra n rc), (fun v _ => v = .int .i64 (n : Int)), (fun v V => ∃ g, v = .slice (some ⟨g, 0, none⟩) n n ∧ w1.heap.size ≤ g ∧ V.heap[g]? = some (.cells CO.toArray 35)), (fun v V => ∃ g, v = .slice (some ⟨g, 0, none⟩) n n ∧ w1.heap.size ≤ g ∧ V.heap[g]? = some (.cells CS.toArray 66)), (fun _ _ => True)] (by kernel_rfl) (by kernel_rfl) (by kernel_rfl) (by kernel_rfl) (by kernel_rfl) rfl (by kernel_rfl) rfl ?_ ?_ ?_
 ·exact ⟨stays_is _, stays_is _, (fun v W W2 h hb => by obtain ⟨g, h1, h2, h3⟩ := h; exact ⟨g, h1, h2, blk_keep hb h3⟩), stays_is _, stays_is _, (fun v W W2 h hb => by obtain ⟨g, h1, h2, h3⟩ := h; exact ⟨g, h1, h2, blk_keep hb h3⟩), (fun v W W2 h hb => by obtain ⟨g, h1, h2, h3⟩ := h; exact ⟨g, h1, h2, blk_keep hb h3⟩), stays_true, trivial⟩
 ·refine ⟨?_, ?_, ?_, ?_, ?_, ?_, ?_, trivial⟩
  ·refine relOb_mk (o := ⟨some 27, _, _, _, _, _⟩) rfl (fun r V hc hf hg hs hb hd => ?_)
   have x1 : r (.tmp 1) = .slice ra n rc := hs 1 (by kernel_rfl)
   clear hs hd hg
   go_simp
   exact ⟨Below.refl _ _, rfl⟩
  ·refine relOb_mk (o := ⟨some 28, _, _, _, _, _⟩) rfl (fun r V hc hf hg hs hb hd => ?_)
   have h0 : r (.tmp 27) = .slice ra n rc := hd 0 27 rfl (by kernel_rfl)
   clear hs hd hg
   go_simp
   exact ⟨Below.refl _ _, rfl⟩
  ·refine relOb_mk (o := ⟨some 29, _, _, _, _, _⟩) rfl (fun r V hc hf hg hs hb hd => ?_)
   have h1 : r (.tmp 28) = .int .i64 (n : Int) := hd 1 28 rfl (by kernel_rfl)
   clear hs hd hg
   have hs := hb.size
   exact rel_make 38 _ _ rfl _ _ _ h1 h1 _ (HCS.out V) (below1 V _) ⟨_, rfl, hs, alloc1 V _ (Below.refl _ _)⟩
  ·refine relOb_mk (o := ⟨some 30, _, _, _, _, _⟩) rfl (fun r V hc hf hg hs hb hd => ?_)
   have x1 : r (.tmp 1) = .slice ra n rc := hs 1 (by kernel_rfl)
   clear hs hd hg
   go_simp
   exact ⟨Below.refl _ _, rfl⟩
  ·refine relOb_mk (o := ⟨some 31, _, _, _, _, _⟩) rfl (fun r V hc hf hg hs hb hd => ?_)
   have h3 : r (.tmp 30) = .slice ra n rc := hd 3 30 rfl (by kernel_rfl)
   clear hs hd hg
   go_simp
   exact ⟨Below.refl _ _, rfl⟩
  ·refine relOb_mk (o := ⟨some 32, _, _, _, _, _⟩) rfl (fun r V hc hf hg hs hb hd => ?_)
   have h4 : r (.tmp 31) = .int .i64 (n : Int) := hd 4 31 rfl (by kernel_rfl)
   clear hs hd hg
   have hs := hb.size
   exact rel_make 39 _ _ rfl _ _ _ h4 h4 _ (HCO.out V) (below1 V _) ⟨_, rfl, hs, alloc1 V _ (Below.refl _ _)⟩
  ·refine relOb_mk (o := ⟨some 9, _, _, _, _, _⟩) rfl (fun r V hc hf hg hs hb hd => ?_)
   have h2 : (fun v V => ∃ g, v = .slice (some ⟨g, 0, none⟩) n n ∧ w1.heap.size ≤ g ∧ V.heap[g]? = some (.cells CS.toArray 66)) (r (.tmp 29)) V := hd 2 29 rfl (by kernel_rfl)
   clear hs hd hg
   go_simp
   exact ⟨Below.refl _ _, h2⟩
 ·intro a V hb hx
  have h0 : a.eval (.tmp 27) = .slice ra n rc := hx 0 27 rfl rfl
  have h1 : a.eval (.tmp 28) = .int .i64 (n : Int) := hx 1 28 rfl rfl
  have h2 : (fun v V => ∃ g, v = .slice (some ⟨g, 0, none⟩) n n ∧ w1.heap.size ≤ g ∧ V.heap[g]? = some (.cells CS.toArray 66)) (a.eval (.tmp 29)) V := hx 2 29 rfl rfl
  obtain ⟨v29, e29⟩ : ∃ v, a.eval (.tmp 29) = v := ⟨_, rfl⟩
  rw [e29] at h2
  have h3 : a.eval (.tmp 30) = .slice ra n rc := hx 3 30 rfl rfl
  have h4 : a.eval (.tmp 31) = .int .i64 (n : Int) := hx 4 31 rfl rfl
  have h5 : (fun v V => ∃ g, v = .slice (some ⟨g, 0, none⟩) n n ∧ w1.heap.size ≤ g ∧ V.heap[g]? = some (.cells CO.toArray 35)) (a.eval (.tmp 32)) V := hx 5 32 rfl rfl
  obtain ⟨v32, e32⟩ : ∃ v, a.eval (.tmp 32) = v := ⟨_, rfl⟩
  rw [e32] at h5
  have h6 : (fun v V => ∃ g, v = .slice (some ⟨g, 0, none⟩) n n ∧ w1.heap.size ≤ g ∧ V.heap[g]? = some (.cells CS.toArray 66)) (a.eval (.tmp 9)) V := hx 6 9 rfl rfl
  obtain ⟨v9, e9⟩ : ∃ v, a.eval (.tmp 9) = v := ⟨_, rfl⟩
  rw [e9] at h6
  unfold fillAll
  simp only [List.foldl_cons, List.foldl_nil, h0, h1, e29, h3, h4, e32, e9, Act.put, List.setIfInBounds_toArray, List.set_cons_zero, List.set_cons_succ]
  clear h0 h1 e29 h3 h4 e32 e9 hx
  obtain ⟨gX, rfl, _, _⟩ := h2
  obtain ⟨gO, rfl, hgO, qO⟩ := h5
  obtain ⟨gS, rfl, hgS, qS⟩ := h6
  have HB6 := Lib.hid hb
  have HGS := Lib.hid qS
  have HGO := Lib.hid qO
  have HGE : Hid (w1.heap.size ≤ gS ∧ w1.heap.size ≤ gO ∧ gS ≠ gO) := Lib.hid ⟨hgS, hgO, ne_kind qS qO (by decide)⟩
  refine wpAny_ready (rs := [7]) (by kernel_rfl) (by simp) (AllReady.cons (o := ⟨some 10, _, _, _, _, _⟩) rfl (fun K hK => ?_) AllReady.nil)
  go_simp
  refine hK _ _ ?_
  clear hK K hb qS qO hgS hgO
  refine wpAny_done (by kernel_rfl) ?_ _
  (try simp only [Act.put, List.setIfInBounds_toArray, List.set_cons_zero, List.set_cons_succ])
  go_upto_region 9 with rw [zero_st]
  have hbt := below1 V (.cells (stL zS).toArray 66)
  have hqt := alloc1 V (.cells (stL zS).toArray 66) (Below.refl _ _)
  have hvt : w1.heap.size ≤ V.heap.size := HB6.out.size
  have hlS := blk_lt HGS.out
  have hlO := blk_lt HGO.out
  obtain ⟨W6, hW6⟩ : ∃ Z, Z = V.alloc (.cells (stL zS).toArray 66) := ⟨_, rfl⟩
  obtain ⟨gt, hgt⟩ : ∃ g, g = V.heap.size := ⟨_, rfl⟩
  rw [← hW6] at hbt hqt ⊢
  rw [← hgt] at hqt ⊢
  have HGT0 := Lib.hid hqt
  have HGS0 := Lib.hid (blk_keep hbt HGS.out)
  have HGO0 := Lib.hid (blk_keep hbt HGO.out)
  have HB60 := Lib.hid (below_on HB6.out hbt)
  have HGE : Hid ((w1.heap.size ≤ gS ∧ w1.heap.size ≤ gO) ∧ w1.heap.size ≤ gt ∧ gS ≠ gO ∧ gS ≠ gt ∧ gO ≠ gt) := Lib.hid (by have := HGE.out; omega)
  clear hbt hqt hvt hlS hlO hW6 hgt HGS HGO HB6
  go_loopg [35] n (fun g v wr => ∃ (i : Nat) (rs' ro' : List Value), i + g = n ∧ v = .int .i64 (i : Int) ∧ (runS T X i).ok ∧ wr.heap[gt]? = some (.cells (stL (runS T X i)).toArray 66) ∧ wr.heap[gS]? = some (.cells (stR T X i ++ rs').toArray 66) ∧ wr.heap[gO]? = some (.cells (ouR T X i ++ ro').toArray 35) ∧ (rs'.length = (n - i) * 68 ∧ ro'.length = (n - i) * 2) ∧ Below w1.heap.size w1 wr)
  case atStart => exact ⟨0, CS, CO, by omega, rfl, by rw [run_zero]; exact zSt_ok, by rw [run_zero, zSt_eq]; exact HGT0.out, by rw [stR_zero, List.nil_append]; exact HGS0.out, by rw [ouR_zero, List.nil_append]; exact HGO0.out, HCL.out, HB60.out⟩
  case round =>
   obtain ⟨i, rs', ro', hi, rfl, hso, hgt, hgs, hgo, hrl, hbw⟩ := hrel
   have HI := Lib.hid hi
   have HSO := Lib.hid hso
   have HGT := Lib.hid hgt
   have HGS := Lib.hid hgs
   have HGO := Lib.hid hgo
   have HRL := Lib.hid hrl
   have HB := Lib.hid hbw
   clear hi hso hgt hgs hgo hrl hbw
   by_cases hlt : i < n
   ·skip
    obtain ⟨wo, rfl⟩ : ∃ q, q = wr := ⟨_, rfl⟩
    have d1 : (0 : Int) ≤ i := by omega
    have d2 : (i : Int) < n := by omega
    have e1 := k_succ hlt (Nat.le_trans HN4.out (by decide))
    have HLT := Lib.hid hlt
    obtain ⟨x, hxi⟩ : ∃ x, X[i]? = some x := ⟨_, List.getElem?_eq_getElem (by rw [HXN.out]; exact hlt)⟩
    have HXO1 := Lib.hid (HXO.out x (List.mem_of_getElem? hxi))
    rcases HXR.out with hnil | ⟨rb, ro, hra, hc⟩
    ·rw [hnil] at hxi; cases hxi
    have hbo := below_on HB1.out HB.out
    have z0 := cell_later hbo (hc i _ hxi 0 _ rfl)
    have z1 := cell_later hbo (hc i _ hxi 1 _ rfl)
    have z2 := cell_later hbo (hc i _ hxi 2 _ rfl)
    have z3 := cell_later hbo (hc i _ hxi 3 _ rfl)
    rw [Nat.add_zero] at z0
    obtain ⟨S, hS⟩ : ∃ S, runS T X i = S := ⟨_, rfl⟩
    obtain ⟨NS, hNS⟩ : ∃ NS, stepT T x S = NS := ⟨_, rfl⟩
    obtain ⟨OP, hOP⟩ : ∃ OP, outS T NS x.oc x.no x.re = OP := ⟨_, rfl⟩
    obtain ⟨PT, hPT⟩ : ∃ PT, NS.pt = PT := ⟨_, rfl⟩
    have HSR : Hid (stR T X (i + 1) = stR T X i ++ stL NS ∧ ouR T X (i + 1) = ouR T X i ++ [.int .u64 (OP : Int), .int .u32 (PT : Int)] ∧ runS T X (i + 1) = NS) := Lib.hid (by
     have h1 := run_succ (T := T) hxi
     rw [hS, hNS] at h1
     refine ⟨by rw [stR_succ, h1], ?_, h1⟩
     rw [ouR_succ, outL_at hxi, hS, hNS, hOP, hPT])
    rw [hS] at HSO HGT
    have HNO : Hid NS.ok := Lib.hid (hNS ▸ stepT_ok HTB.out HSO.out x)
    have KST : Hid (∀ V, Below w1.heap.size w1 V → Calls Try.prog 11 #[.pointer (some ⟨m, 0, none⟩), .agg (stL S).toArray, .agg #[.int .u64 (x.oc : Int), .int .u32 (x.no : Int), .int .u32 (x.re : Int), .slice x.a x.len x.cap]] V fun e w' => e = .returned (.tuple #[.agg (stL NS).toArray, .agg #[.int .u64 (OP : Int), .int .u32 (PT : Int)]]) ∧ Below V.heap.size V w') := Lib.hid (fun V hV => by
     have h := stepV HM.out.1 hV (HM.out.2.1 ▸ HTB.out) HM.out.2.2 S HSO.out x (HXO1.out.1.below (below_on HB1.out hV)) HXO1.out.2
     rw [HM.out.2.1, hNS, hOP, hPT] at h
     exact h)
    obtain ⟨A, hA⟩ : ∃ q, ra = q := ⟨_, rfl⟩
    have HAA := Lib.hid hA
    rw [hA] at hra ⊢
    subst hra
    clear hlt hxi hc hbo hS hNS hOP hPT hA
    go_upto_region 11 with fail
    clear z0 z1 z2 z3
    have hbi := below1 wo (.cells #[.int .u64 (x.oc : Int), .int .u32 (x.no : Int), .int .u32 (x.re : Int), .slice x.a x.len x.cap] 49)
    have hqi := alloc1 wo (.cells #[.int .u64 (x.oc : Int), .int .u32 (x.no : Int), .int .u32 (x.re : Int), .slice x.a x.len x.cap] 49) (Below.refl _ _)
    obtain ⟨W, hW⟩ : ∃ V, V = wo.alloc (.cells #[.int .u64 (x.oc : Int), .int .u32 (x.no : Int), .int .u32 (x.re : Int), .slice x.a x.len x.cap] 49) := ⟨_, rfl⟩
    obtain ⟨gi, hgi⟩ : ∃ g, g = wo.heap.size := ⟨_, rfl⟩
    rw [← hW] at hbi hqi ⊢
    rw [← hgi] at hqi ⊢
    have HGI : Hid (wo.heap.size ≤ gi) := Lib.hid (by omega)
    have HBW := Lib.hid (below_on HB.out hbi)
    have HBI := Lib.hid hbi
    have HLD := Lib.hid (load_st (blk_keep hbi HGT.out))
    have i0 := blk_cell hqi 0 _ rfl
    have i1 := blk_cell hqi 1 _ rfl
    have i2 := blk_cell hqi 2 _ rfl
    have i3 := blk_cell hqi 3 _ rfl
    clear hbi hqi hW hgi
    go_wp2_with ((with_reducible refine wpList_load_is (op := ⟨some 44, _, _, _, _, _⟩) rfl 66 _ rfl _ _ ?_ HLD.out ?_); (· rfl))
    refine (KST.out _ HBW.out).mono ?_
    rintro e wa ⟨rfl, hba⟩
    have HBa := Lib.hid (below_on HBI.out hba)
    have hgt := blk_keep HBa.out HGT.out
    have hgs := blk_keep HBa.out HGS.out
    have hgo := blk_keep HBa.out HGO.out
    have hne := HGE.out
    clear hba i0 i1 i2 i3 HLD HBW HBI KST HGI
    obtain ⟨hst1, hq1, ho1⟩ := store_st (s' := NS) hgt
    obtain ⟨wb, hwb⟩ : ∃ V, V = wa.setCells gt 0 (stL NS) := ⟨_, rfl⟩
    rw [← hwb] at hst1 hq1 ho1
    have hgs1 := ho1.keep hne.2.2.2.1 hgs
    have hgo1 := ho1.keep hne.2.2.2.2 hgo
    obtain ⟨hst2, hq2, ho2⟩ := store_mid (ty := 35) (ouR T X i) ro' [.int .u64 (OP : Int), .int .u32 (PT : Int)] hgo1 (by rw [HRL.out.2]; have := HLT.out; show 2 ≤ _; omega) info_ou (by intro u hu; simp at hu; rcases hu with rfl | rfl <;> rfl)
    rw [ouR_len] at hst2 hq2 ho2
    obtain ⟨wc, hwc⟩ : ∃ V, V = wb.setCells gO (i * 2) [.int .u64 (OP : Int), .int .u32 (PT : Int)] := ⟨_, rfl⟩
    rw [← hwc] at hst2 hq2 ho2
    have hgs2 := ho2.keep hne.2.2.1 hgs1
    have hgt2 := ho2.keep (fun e => hne.2.2.2.2 e.symm) hq1
    obtain ⟨hst3, hq3, ho3⟩ := store_mid (ty := 66) (stR T X i) rs' (stL NS) hgs2 (by rw [HRL.out.1, st_len]; have := HLT.out; omega) (by rw [st_len]; exact info_st) (st_one NS)
    rw [stR_len] at hst3 hq3 ho3
    obtain ⟨wd, hwd⟩ : ∃ V, V = wc.setCells gS (i * 68) (stL NS) := ⟨_, rfl⟩
    rw [← hwd] at hst3 hq3 ho3
    have hgo3 := ho3.keep (fun e => hne.2.2.1 e.symm) hq2
    have hgt3 := ho3.keep (fun e => hne.2.2.2.1 e.symm) hgt2
    have HF : Hid (wd.heap[gt]? = some (.cells (stL NS).toArray 66) ∧ wd.heap[gS]? = some (.cells (stR T X i ++ stL NS ++ rs'.drop (stL NS).length).toArray 66) ∧ wd.heap[gO]? = some (.cells (ouR T X i ++ [Value.int .u64 (OP : Int), Value.int .u32 (PT : Int)] ++ ro'.drop 2).toArray 35) ∧ Below w1.heap.size w1 wd) := Lib.hid ⟨hgt3, hq3, hgo3, (by
     have a0 := below_on HB.out HBa.out
     have a1 := Only.below a0 hne.2.1 a0.size ho1
     have a2 := Only.below a1 hne.1.2 a1.size ho2
     exact Only.below a2 hne.1.1 a2.size ho3)⟩
    have HLD2 := Lib.hid (load_st hgt2)
    have HS1 := Lib.hid hst1
    have HS2 := Lib.hid hst2
    have HS3 := Lib.hid hst3
    clear hgt hgs hgo hne hst1 hq1 ho1 hwb hgs1 hgo1 hst2 hq2 ho2 hwc hgs2 hgt2 hst3 hq3 ho3 hwd hgo3 hgt3
    go_upto_region 12 with (first
     | ((with_reducible refine wpList_store_is (op := ⟨none, .store 66 _ _, _, _, _, _⟩) rfl 66 _ _ rfl _ _ ?_ ?_ _ HS1.out ?_); (· rfl); (· rfl))
     | ((with_reducible refine wpList_store_is (op := ⟨none, .store 35 _ _, _, _, _, _⟩) rfl 35 _ _ rfl _ _ ?_ ?_ _ HS2.out ?_); (· rfl); (· rfl)))
    (try simp only [Act.put])
    go_upto_region 13 with (first
     | ((with_reducible refine wpList_load_is (op := ⟨some 52, _, _, _, _, _⟩) rfl 66 _ rfl _ _ ?_ HLD2.out ?_); (· rfl))
     | ((with_reducible refine wpList_store_is (op := ⟨none, .store 66 _ _, _, _, _, _⟩) rfl 66 _ _ rfl _ _ ?_ ?_ _ HS3.out ?_); (· rfl); (· rfl)))
    (try simp only [Act.put])
    clear HS1 HS2 HS3 HLD2
    go_wp2_with fail
    rw [← HAA.out]
    go_roundg (n - (i + 1))
    case rel =>
     refine ⟨i + 1, rs'.drop (stL NS).length, ro'.drop 2, k_next HI.out HLT.out, by go_num, ?_, ?_, ?_, ?_, ?_, HF.out.2.2.2⟩
     ·rw [HSR.out.2.2]; exact HNO.out
     ·rw [HSR.out.2.2]; exact HF.out.1
     ·rw [HSR.out.1]; exact HF.out.2.1
     ·rw [HSR.out.2.1]; exact HF.out.2.2.1
     ·rw [List.length_drop, List.length_drop, HRL.out.1, HRL.out.2, st_len]; have := HLT.out; omega
    case measure => exact k_less HI.out HLT.out
   ·have d2 : ¬ ((i : Int) < (n : Int)) := by omega
    obtain rfl : i = n := by have := HI.out; omega
    have hr1 : rs' = [] := List.eq_nil_of_length_eq_zero (by rw [HRL.out.1]; omega)
    have hr2 : ro' = [] := List.eq_nil_of_length_eq_zero (by rw [HRL.out.2]; omega)
    have HF : Hid (wr.heap[gS]? = some (.cells (stR T X i).toArray 66) ∧ wr.heap[gO]? = some (.cells (ouR T X i).toArray 35)) := Lib.hid ⟨by rw [HGS.out, hr1, List.append_nil], by rw [HGO.out, hr2, List.append_nil]⟩
    clear hlt hr1 hr2
    go_wp2_with fail
    go_ret3
    exact ⟨gS, gO, rfl, HF.out.1, HF.out.2, below_on HB1.out HB.out⟩
end Go.Proofs.Ytpohoannggdbjaa
