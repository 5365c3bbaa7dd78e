/-
  Walks of chapter 14: Sync, Write.
-/
import Derived.Test.YtncijclhfndniaaDiskB
import Derived.Deep.RegionHeldLaw
import Derived.Laws.CopyOwn
namespace Go.Proofs.Ytncijclhfndniaa
open Go.RowKit
attribute [local irreducible] byteVals wrVs wrV BlAt okB zeros puts pad Dk.ask Dk.settle Dk.count Dk.gCode Dk.synced
set_option maxHeartbeats 2000000 in
theorem sync_any (s : Dk) (X : Nat → Prop) (g : Nat) (w : World) (h : DAt w X g s) : Calls Try.prog 11 #[.pointer (some ⟨g, 0, none⟩)] w fun e w' => e = .returned (.int .i64 s.sCode) ∧ DAt w' X g s.sync ∧ Bar X w w' := by
  have H := Lib.hid h
  obtain ⟨ad, cb, v, ap, h⟩ := h
  have h4 := blk_cell h.hd 4 _ rfl
  clear h
  cases ho : s.off with
  | true =>
    rw [ho] at h4
    have e1 : s.sCode = 140 := by unfold Dk.sCode; rw [if_pos (.inl ho)]
    have e2 : s.sync = s := by unfold Dk.sync; rw [if_pos ho]
    rw [e1, e2]
    clear e1 e2
    go_enter Try.func11, Try.ntmps11
    go_wp2_with fail
    go_ret
    exact ⟨rfl, H.out, Bar.refl _ _⟩
  | false =>
    rw [ho] at h4
    have hn : ¬ s.off = true := by rw [ho]; decide
    have e1 : s.sCode = s.gCode := by unfold Dk.sCode Dk.gCode; simp [ho]
    have e2 : s.sync = s.synced := by unfold Dk.sync Dk.synced; rw [if_neg hn]
    rw [e1, e2]
    clear e1 e2 hn ho
    go_enter Try.func11, Try.ntmps11
    go_wp2_with fail
    refine (step_s2 s X g _ H.out).mono ?_
    rintro e w1 ⟨rfl, hd, hb⟩
    go_wp2_with fail
    go_ret
    exact ⟨rfl, hd, hb⟩
theorem wpList_copy_src {P : Program} {w : World} {ops : Array Oper} {rest : List Oper} {o : Oper} {a : Act} {Q : Exit → Act → World → Prop} (hgd : o.guard = none) (d s : Operand) (dT sT : TypeId)
    (ho : o.op = .call { callee := .builtin .copy, args := #[d, s], argTypes := #[dT, sT] }) (elem : TypeId) (hu : P.underlying dT = some (.slice elem)) (hsz : (P.info? elem).map (·.size) = some 1)
    (g off dLen dCap : Nat) (sp : Option Addr) (sLen sCap : Nat) (hd : a.eval d = .slice (some ⟨g, off, none⟩) dLen dCap) (hs : a.eval s = .slice sp sLen sCap)
    (cs : List Value) (hn : cs.length = Nat.min sLen dLen) (hsrc : SrcAt w sp sCap cs) (ht : w.there g off cs.length)
    (h : wpList P ops Q rest (a.put o.dst (goInt cs.length)) (w.setCells g off cs)) : wpList P ops Q (o :: rest) a w := by
  cases sp with
  | none =>
    obtain ⟨_, rfl⟩ := hsrc.1 rfl
    exact wpList_copy_nothing hgd d s dT sT ho elem hu hsz _ _ _ _ _ _ hd hs (by simpa using hn.symm) h
  | some ad =>
    refine wpList_plain hgd fun K hK => ?_
    have hrun := run_copy_cells (P := P) w dT sT o.type elem g off dLen dCap ad sLen sCap cs hu hsz hn (hsrc.2.2 ad rfl) (fun j hj => (ht j hj).1) (fun j hj => (ht j hj).2) hsrc.2.1
    unfold Oper.wp
    simp [execOp, ho, resolve, invoke, builtin, hd, hs, hrun, Result.andThen]
    exact hK _ _ h
theorem zeros_okB : okB zeros := by unfold okB zeros; exact ⟨List.length_replicate, fun x hx => by rw [List.eq_of_mem_replicate hx]; decide⟩
theorem pad_okB {b : List Nat} (hb : b.length ≤ 256) (hx : ∀ x ∈ b, x < 256) : okB (pad b) := by
  unfold okB pad
  refine ⟨by rw [List.length_append, List.length_replicate]; omega, fun x h => ?_⟩
  rcases List.mem_append.1 h with h | h
  · exact hx x h
  · rw [List.eq_of_mem_replicate h]; decide
theorem info_u8 : (Try.prog.info? 5).map (·.size) = some 1 := by kernel_rfl
/-- behind the copy: what is to be appended lies in a block of its own -/
theorem copied_at {w W2 : World} {m : Nat} {b : List Nat} (hb : b.length ≤ 256) (h : W2 = (w.alloc (.cells (wrV (m, zeros)).toArray 60)).setCells w.heap.size 1 (byteVals b)) :
    W2.rangeAt w.heap.size 0 (wrV (m, pad b)) ∧ Below w.heap.size w W2 ∧ w.heap.size < W2.heap.size := by
  have h1 := range_copied (m := m) (heap_new1 w (.cells (wrV (m, zeros)).toArray 60)) hb
  have h2 := only_setCells (g := w.heap.size) (byteVals b) 1 (w.alloc (.cells (wrV (m, zeros)).toArray 60))
  rw [← h] at h1 h2
  have h3 : Below w.heap.size w W2 := Only.below (below1 w _) (Nat.le_refl _) (below1 w _).size h2
  refine ⟨h1, h3, ?_⟩
  have := h2.size
  have h4 : (w.alloc (.cells (wrV (m, zeros)).toArray 60)).heap.size = w.heap.size + 1 := by show (w.heap.push _).size = _; simp
  omega
theorem fold_get (l : List Value) : ∀ (k : Nat) (c : Array Value), k + l.length ≤ c.size → ∀ j, ((l.zipIdx k).foldl (fun (cs : Array Value) (x : Value × Nat) => cs.setIfInBounds (0 + x.2) x.1) c)[j]? = if k ≤ j ∧ j < k + l.length then l[j - k]? else c[j]? := by
  induction l with
  | nil => intro k c hk j; simp only [List.zipIdx_nil, List.foldl_nil, List.length_nil]; rw [if_neg (by omega)]
  | cons x l ih =>
    intro k c hk j
    simp only [List.length_cons] at hk
    simp only [List.zipIdx_cons, List.foldl_cons, List.length_cons]
    rw [ih (k + 1) _ (by rw [Array.size_setIfInBounds]; omega) j]
    by_cases h1 : k + 1 ≤ j ∧ j < k + 1 + l.length
    · rw [if_pos h1, if_pos (by omega), show j - k = (j - (k + 1)) + 1 by omega, List.getElem?_cons_succ]
    · rw [if_neg h1, Array.getElem?_setIfInBounds]
      by_cases h2 : k = j
      · subst h2
        rw [if_pos (by omega), if_pos (by omega), if_pos (by omega)]; simp
      · rw [if_neg (by omega), if_neg (by omega)]
theorem fill_all (l : List Value) (c : Array Value) (h1 : l.length = 257) (h2 : c.size = 257) : Instr.fill (fun i => some (i * 257, 257)) c [(0, .agg l.toArray)] = some l.toArray := by
  have hc : (Value.agg l.toArray).cells = l.toArray := rfl
  have hf : (l.toArray.zipIdx.foldl (fun (cs : Array Value) (x : Value × Nat) => cs.setIfInBounds (0 + x.2) x.1) c) = l.toArray := by
    apply Array.ext_getElem?
    intro j
    have := fold_get l 0 c (by omega) j
    have e : l.toArray.zipIdx.foldl (fun (cs : Array Value) (x : Value × Nat) => cs.setIfInBounds (0 + x.2) x.1) c = (l.zipIdx 0).foldl (fun (cs : Array Value) (x : Value × Nat) => cs.setIfInBounds (0 + x.2) x.1) c := by
      rw [← Array.foldl_toList]; simp
    rw [e, this]
    by_cases hj : j < l.length
    · rw [if_pos (by omega)]; simp
    · rw [if_neg (by omega), Array.getElem?_eq_none (by omega), Array.getElem?_eq_none (by rw [List.size_toArray]; omega)]
  unfold Instr.fill
  simp only [hc, Nat.zero_mul]
  rw [if_neg (by simp [h1, h2])]
  unfold Instr.fill
  exact congrArg some hf
theorem run_build_wr (w : World) (p : Nat × List Nat) (hp : okB p.2) : (Instr.buildSlice 51 1 #[(0, .agg (wrV p).toArray)]).run Try.prog w = .ok (.slice (some ⟨w.heap.size, 0, none⟩) 1 1) (w.alloc (.cells (wrV p).toArray 60)) := by
  obtain ⟨Z, hZ, hzero, _⟩ := zero_wr
  have hsz : ∀ w, (sizeOf 60).run Try.prog w = .ok 257 w := fun w => by
    have := info_w2
    cases hq : Try.prog.info? 60 with
    | none => rw [hq] at this; cases this
    | some i =>
      rw [hq] at this
      have h2 : i.size = 257 := by simpa using this
      simp [sizeOf, typeInfo, hq, h2]
  have hfill := fun (c : Array Value) (hc : c.size = 257) => fill_all (wrV p) c (wrV_length hp) hc
  unfold Instr.buildSlice
  simp only [Sem.run_bind, run_underlying Try.underlying51, Result.andThen_ok, hsz, Nat.one_mul]
  rw [if_neg (by decide), if_neg (by decide)]
  simp only [Sem.run_bind, hzero, Result.andThen_ok, Sem.run_pure]
  rw [hfill _ (by simp only [Array.size_map, Array.size_range])]
  simp only [Sem.run_bind, Sem.run_pure, Result.andThen_ok, newRow, run_newObj]
  rfl
theorem wpAny_two {P : Program} {md : Region.Mode} {ops : Array Oper} {Q : Exit → Act → World → Prop} {i j : Nat} {o p : Oper} {fuel : Nat} {listed : Array Bool} {a : Act} {w : World} (hr : Region.ready md ops listed = [i, j]) (ho : ops[i]? = some o) (hp : ops[j]? = some p) (hg1 : o.guard = none) (hg2 : p.guard = none)
    (h1 : ∀ K : Act → World → Prop, (∀ a' w', wpAny P md ops Q fuel (listed.setIfInBounds i true) a' w' → K a' w') → o.wp P a w K Q) (h2 : ∀ K : Act → World → Prop, (∀ a' w', wpAny P md ops Q fuel (listed.setIfInBounds j true) a' w' → K a' w') → p.wp P a w K Q) : wpAny P md ops Q (fuel + 1) listed a w := by
  refine wpAny_all hr (by simp) (fun k hk => ?_)
  have : k = i ∨ k = j := by simpa using hk
  rcases this with rfl | rfl
  · exact wpOp_step ho (fun K hK => by rw [if_pos (by simp [Region.wanted, hg1])]; exact h1 K hK)
  · exact wpOp_step hp (fun K hK => by rw [if_pos (by simp [Region.wanted, hg2])]; exact h2 K hK)
theorem wpAny_one {P : Program} {md : Region.Mode} {ops : Array Oper} {Q : Exit → Act → World → Prop} {i : Nat} {o : Oper} {fuel : Nat} {listed : Array Bool} {a : Act} {w : World} (hr : Region.ready md ops listed = [i]) (ho : ops[i]? = some o) (hg1 : o.guard = none)
    (h1 : ∀ K : Act → World → Prop, (∀ a' w', wpAny P md ops Q fuel (listed.setIfInBounds i true) a' w' → K a' w') → o.wp P a w K Q) : wpAny P md ops Q (fuel + 1) listed a w := by
  refine wpAny_all hr (by simp) (fun k hk => ?_)
  have : k = i := by simpa using hk
  subst this
  exact wpOp_step ho (fun K hK => by rw [if_pos (by simp [Region.wanted, hg1])]; exact h1 K hK)
theorem wp_run_val {P : Program} {o : Oper} {a : Act} {w w' : World} {v : Value} {K : Act → World → Prop} {Q : Exit → Act → World → Prop} (hr : (execOp a.eval o).run P w = .ok (.value v) w') (h : K (a.put o.dst v) w') : o.wp P a w K Q := by
  unfold Oper.wp
  rw [hr]
  exact h
theorem run_load_is {P : Program} {o : Oper} {a : Act} {w : World} (ty : TypeId) (x : Operand) (ho : o.op = .load ty x) {vx v : Value} (hx : a.eval x = vx) (hr : (Instr.loadAt ty vx).run P w = .ok v w) : (execOp a.eval o).run P w = .ok (.value v) w := by
  unfold execOp
  simp only [ho, hx, Sem.run_bind, hr, Result.andThen_ok, Sem.run_pure]
theorem ws_alloc {w : World} {m0 g : Nat} {l : List Value} {v : Value} (o : Obj) (h : w.rangeAt m0 0 l ∧ w.cell? ⟨g, 1, none⟩ = some v ∧ w.frozen? ⟨g, 1, none⟩ = false) : (w.alloc o).rangeAt m0 0 l ∧ (w.alloc o).cell? ⟨g, 1, none⟩ = some v ∧ (w.alloc o).frozen? ⟨g, 1, none⟩ = false := by
  have hb := World.block_lt_of_cell? w _ h.2.1
  exact ⟨World.rangeAt_alloc h.1 o, by rw [World.cell?_alloc_lt _ _ _ hb]; exact h.2.1, by rw [World.frozen?_alloc_past _ _ _ hb]; exact h.2.2⟩
theorem run_build_is {P : Program} {o : Oper} {a : Act} {w w' : World} (t : TypeId) (x : Operand) (ho : o.op = .buildSlice t 1 #[(0, x)]) {vx v : Value} (hx : a.eval x = vx) (hr : (Instr.buildSlice t 1 #[(0, vx)]).run P w = .ok v w') : (execOp a.eval o).run P w = .ok (.value v) w' := by
  unfold execOp
  simp only [ho, hx, List.map_toArray, List.map_cons, List.map_nil, Sem.run_bind, hr, Result.andThen_ok, Sem.run_pure]
theorem wp_run_skip {P : Program} {o : Oper} {a : Act} {w w' : World} {K : Act → World → Prop} {Q : Exit → Act → World → Prop} (hr : (execOp a.eval o).run P w = .ok .skip w') (h : K (a.put o.dst undef) w') : o.wp P a w K Q := by
  unfold Oper.wp
  rw [hr]
  exact h
theorem write_mem {w W Wa w8 : World} {X : Nat → Prop} {g : Nat} {s : Dk} {ad : Option Addr} {cb : Nat} {v : Value} {ap : Option Addr} {m gk cap : Nat} {b : List Nat} (hDW : DkAt W X g s ad cb v ap) (hbW : Below w.heap.size w W) (hX : ∀ k, X k → k < w.heap.size) (hWa : Below W.heap.size W Wa) (hm : m < s.bl.length) (hb : okB b)
    (hown : w8.ownsRow 0 60 257 (.slice (some ⟨gk, 0, none⟩) (s.op.length + 1) cap) (s.op.length + 1) (wrVs s.op ++ wrV (m, b))) (hg : Wa.grownBy w8 v.ownBlock) (hgv : v.ownBlock = some gk ∨ gk = Wa.heap.size) (hgl : gk < w8.heap.size) :
    (w8.cell? ⟨g, 1, none⟩ = some v ∧ w8.frozen? ⟨g, 1, none⟩ = false) ∧ DAt (w8.setCell ⟨g, 1, none⟩ (.slice (some ⟨gk, 0, none⟩) (s.op.length + 1) cap)) (fun k => X k ∨ (w.heap.size ≤ k ∧ k < w8.heap.size)) g { s with op := s.op ++ [(m, b)] } ∧ Bar X w (w8.setCell ⟨g, 1, none⟩ (.slice (some ⟨gk, 0, none⟩) (s.op.length + 1) cap)) := by
  have hown2 : ∀ q, v.ownBlock = some q → ∃ C, W.heap[q]? = some (.cells C 60 (0, 0)) := fun q hq => by
    rcases hDW.op.2 with ⟨e, _⟩ | ⟨g', cap', cur, e, _, hc, _⟩
    · rw [e] at hq; cases hq
    · rw [e] at hq; cases hq; exact ⟨cur, hc⟩
  have h8 : ∀ (k : Nat) (C : Array Value) (t : TypeId), W.heap[k]? = some (.cells C t (0, 0)) → t ≠ 60 → w8.heap[k]? = W.heap[k]? := fun k C t hk ht => by
    rw [hg.block k (Nat.lt_of_lt_of_le (blk_lt hk) hWa.size) (fun e => by
      obtain ⟨C', hC⟩ := hown2 k e.symm
      exact ne_type hk hC ht rfl), hWa.block k (blk_lt hk)]
  have hd8 : w8.heap[g]? = some (.cells #[.slice ad s.bl.length cb, v, .int .i64 s.st, .pointer ap, .bool s.off] 54 (0, 0)) := by rw [h8 g _ _ hDW.hd (by decide), hDW.hd]
  have ho9 : Only g w8 (w8.setCell ⟨g, 1, none⟩ (.slice (some ⟨gk, 0, none⟩) (s.op.length + 1) cap)) := (Only.refl g w8).setCell (p := ⟨g, 1, none⟩) rfl _
  have hs8 : w.heap.size ≤ w8.heap.size := Nat.le_trans hbW.size (Nat.le_trans hWa.size hg.size)
  obtain ⟨curg, hcg⟩ : ∃ cur, w8.heap[gk]? = some (.cells cur 60 (0, 0)) := by
    rcases hown.2 with ⟨e, _⟩ | ⟨g', cap', cur, e, _, hc, _⟩
    · cases e
    · cases e; exact ⟨cur, hc⟩
  have hgg : ¬ gk = g := ne_type hcg hd8 (by decide)
  refine ⟨⟨blk_cell hd8 1 _ rfl, blk_free hd8 1⟩, ⟨ad, cb, _, ap, hDW.opened (fun k C t hk h1 h2 => ?_) (blk_set hd8 1 _) (fun p hp => ?_) (fun k h => .inl h) (fun k hk => ?_) ?_ (fun q hq => ?_) (fun h => ?_)⟩, ?_⟩
  · rw [ho9.block k (blk_lt (by rw [h8 k C t hk h1]; exact hk)) (ne_type hk hDW.hd h2), h8 k C t hk h1]
  · rcases List.mem_append.1 hp with hp | hp
    · exact hDW.ok.opn p hp
    · have : p = (m, b) := by simpa using hp
      subst this
      exact ⟨hm, hb⟩
  · rcases hk with hk | hk
    · exact Nat.lt_of_lt_of_le (hX k hk) (Nat.le_trans hs8 ho9.size)
    · exact Nat.lt_of_lt_of_le hk.2 ho9.size
  · have : (s.op ++ [(m, b)]).length = s.op.length + 1 := by simp
    rw [this, wrVs_append, wrVs_one]
    exact own_keep hown (fun q hq => by cases hq; exact ho9.block gk (blk_lt hcg) hgg)
  · cases hq
    rcases hgv with h | h
    · exact .inl (hDW.ox _ h)
    · refine .inr ⟨?_, hgl⟩
      rw [h]; exact Nat.le_trans hbW.size hWa.size
  · simp at h
  · have hB8 : Bar X w w8 := ⟨hg.os.trans (hWa.os.trans hbW.os), hg.tape.trans (hWa.tape.trans hbW.tape), hg.output.trans (hWa.output.trans hbW.output), hs8, fun k hk hx => by
      rw [hg.block k (Nat.lt_of_lt_of_le hk (Nat.le_trans hbW.size hWa.size)) (fun e => hx (hDW.ox k e.symm)), hWa.block k (Nat.lt_of_lt_of_le hk hbW.size), hbW.block k hk]⟩
    exact hB8.only ho9 (fun _ => hDW.xg)
/-- a load of one thing beside a load of another and what is made of that: whichever comes first -/
theorem wpAny_mix {P : Program} {md : Region.Mode} {ops : Array Oper} {Q : Exit → Act → World → Prop} {i j k : Nat} {oi oj ok : Oper} {vi vj vk : Value} {fuel : Nat} {listed : Array Bool} {a : Act} {w w' : World}
    (hij : i ≠ j) (hik : i ≠ k) (h0 : Region.ready md ops listed = [i, j]) (h1 : Region.ready md ops (listed.setIfInBounds i true) = [j]) (h2 : Region.ready md ops (listed.setIfInBounds j true) = [i, k])
    (h3 : Region.ready md ops ((listed.setIfInBounds i true).setIfInBounds j true) = [k]) (h4 : Region.ready md ops ((listed.setIfInBounds j true).setIfInBounds k true) = [i])
    (ei : ops[i]? = some oi) (ej : ops[j]? = some oj) (ek : ops[k]? = some ok) (gi : oi.guard = none) (gj : oj.guard = none) (gk : ok.guard = none)
    (dij : ∀ d, oi.dst = some d → oj.dst ≠ some d) (dik : ∀ d, oi.dst = some d → ok.dst ≠ some d)
    (xi0 : (execOp a.eval oi).run P w = .ok (.value vi) w) (xi1 : (execOp (a.put oj.dst vj).eval oi).run P w = .ok (.value vi) w) (xi2 : (execOp ((a.put oj.dst vj).put ok.dst vk).eval oi).run P w' = .ok (.value vi) w')
    (xj0 : (execOp a.eval oj).run P w = .ok (.value vj) w) (xj1 : (execOp (a.put oi.dst vi).eval oj).run P w = .ok (.value vj) w)
    (xk0 : (execOp (a.put oj.dst vj).eval ok).run P w = .ok (.value vk) w') (xk1 : (execOp ((a.put oi.dst vi).put oj.dst vj).eval ok).run P w = .ok (.value vk) w')
    (fin : wpAny P md ops Q fuel (((listed.setIfInBounds i true).setIfInBounds j true).setIfInBounds k true) (((a.put oi.dst vi).put oj.dst vj).put ok.dst vk) w') : wpAny P md ops Q (fuel + 1 + 1 + 1) listed a w := by
  have l1 : (listed.setIfInBounds j true).setIfInBounds i true = (listed.setIfInBounds i true).setIfInBounds j true := Array.setIfInBounds_comm _ _ (Ne.symm hij)
  have f1 : (a.put oj.dst vj).put oi.dst vi = (a.put oi.dst vi).put oj.dst vj := (Act.put_comm a vi vj dij).symm
  have l2 : ((listed.setIfInBounds j true).setIfInBounds k true).setIfInBounds i true = ((listed.setIfInBounds i true).setIfInBounds j true).setIfInBounds k true := by
    rw [Array.setIfInBounds_comm _ _ (Ne.symm hik), l1]
  have f2 : ((a.put oj.dst vj).put ok.dst vk).put oi.dst vi = ((a.put oi.dst vi).put oj.dst vj).put ok.dst vk := by
    rw [← Act.put_comm _ vi vk dik, f1]
  have last : wpAny P md ops Q (fuel + 1) ((listed.setIfInBounds i true).setIfInBounds j true) ((a.put oi.dst vi).put oj.dst vj) w := wpAny_one h3 ek gk (fun K hK => wp_run_val xk1 (hK _ _ fin))
  refine wpAny_two h0 ei ej gi gj (fun K hK => wp_run_val xi0 (hK _ _ ?_)) (fun K hK => wp_run_val xj0 (hK _ _ ?_))
  · exact wpAny_one h1 ej gj (fun K hK => wp_run_val xj1 (hK _ _ last))
  · refine wpAny_two h2 ei ek gi gk (fun K hK => wp_run_val xi1 (hK _ _ ?_)) (fun K hK => wp_run_val xk0 (hK _ _ ?_))
    · rw [l1, f1]; exact last
    · exact wpAny_one h4 ei gi (fun K hK => wp_run_val xi2 (hK _ _ (by rw [l2, f2]; exact fin)))
end Go.Proofs.Ytncijclhfndniaa
