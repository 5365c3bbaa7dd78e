/-
 Layer 10: Tidy.
-/
import Derived.Test.YtpohoannggdbjaaIxI
import Derived.Deep.WholeRow
import Derived.Deep.MidRow
import Derived.StillTailTactics
namespace Go.Proofs.Ytpohoannggdbjaa
open Go.RowKit
set_option maxRecDepth 100000
theorem wpList_load_is {P : Program} {ops : Array Oper} {rest : List Oper} {op : Oper} {a : Act} {w : World} {Q : Exit → Act → World → Prop} (hgd : op.guard = none) (ty : TypeId) (x : Operand) (ho : op.op = .load ty x) (vx v : Value) (hx : a.eval x = vx)
 (hr : (Instr.loadAt ty vx).run P w = .ok v w) (h : wpList P ops Q rest (a.put op.dst v) w) : wpList P ops Q (op :: rest) a w :=
 wpList_plain hgd fun K hK => by
  unfold Oper.wp execOp
  simp only [ho, hx, Sem.run_bind, hr, Result.andThen_ok, Sem.run_pure]
  exact hK _ _ h
theorem wpList_store_is {P : Program} {ops : Array Oper} {rest : List Oper} {op : Oper} {a : Act} {w : World} {Q : Exit → Act → World → Prop} (hgd : op.guard = none) (ty : TypeId) (x y : Operand) (ho : op.op = .store ty x y) (vx vy : Value) (hx : a.eval x = vx) (hy : a.eval y = vy)
 (w' : World) (hr : (Instr.storeAt ty vx vy).run P w = .ok () w') (h : wpList P ops Q rest (a.put op.dst undef) w') : wpList P ops Q (op :: rest) a w :=
 wpList_plain hgd fun K hK => by
  unfold Oper.wp execOp
  simp only [ho, hx, hy, Sem.run_bind, hr, Result.andThen_ok, Sem.run_pure]
  exact hK _ _ h
def zS : St := ⟨0, 0, 0, fun _ => 0, 0⟩
theorem info_st : (Try.prog.info? 66).map (·.size) = some 68 := by kernel_rfl
theorem st_one (s : St) : ∀ u ∈ stL s, u.oneCell' = true := by
 intro u h
 unfold stL tmL at h
 simp at h
 rcases h with rfl | rfl | rfl | ⟨k, _, rfl⟩ | rfl <;> rfl
theorem range_st {w : World} {b : Nat} {s : St} {t : TypeId} {fr : Nat × Nat} (h : w.heap[b]? = some (.cells (stL s).toArray t fr)) : w.rangeAt b 0 (stL s) := fun j v hv => by
 rw [Nat.zero_add]; exact blk_cell h j v (by rw [List.getElem?_toArray]; exact hv)
theorem there_st {w : World} {b : Nat} {s : St} {t : TypeId} (h : w.heap[b]? = some (.cells (stL s).toArray t)) : w.there b 0 68 := fun j hj => by
 rw [Nat.zero_add]
 refine ⟨?_, blk_free h j⟩
 rw [blk_cell h j _ (by rw [List.getElem?_toArray]; exact List.getElem?_eq_getElem (by rw [st_len]; exact hj))]
 rfl
theorem load_st {w : World} {b : Nat} {s : St} {t : TypeId} {fr : Nat × Nat} (h : w.heap[b]? = some (.cells (stL s).toArray t fr)) : (Instr.loadAt 66 (.pointer (some ⟨b, 0, none⟩))).run Try.prog w = .ok (.agg (stL s).toArray) w :=
 run_loadAt_mid w b 0 66 (stL s) _ (range_st h) Try.underlying66 rfl (by rw [st_len]; exact info_st)
theorem set_all {w : World} {b : Nat} {t : TypeId} {fr : Nat × Nat} : ∀ (vs pre old : List Value), old.length = vs.length → w.heap[b]? = some (.cells (pre ++ old).toArray t fr) → (w.setCells b pre.length vs).heap[b]? = some (.cells (pre ++ vs).toArray t fr)
 | [], pre, old, hl, h => by
   have : old = [] := List.length_eq_zero_iff.1 hl
   subst this
   exact h
 | v :: vs, pre, [], hl, h => by cases hl
 | v :: vs, pre, o :: old, hl, h => by
   show ((w.setCell ⟨b, pre.length, none⟩ v).setCells b (pre.length + 1) vs).heap[b]? = _
   have h1 := blk_set h pre.length v
   rw [List.setIfInBounds_toArray] at h1
   have h2 : (pre ++ o :: old).set pre.length v = (pre ++ [v]) ++ old := by
    rw [List.set_append, if_neg (by omega), Nat.sub_self, List.append_assoc]; rfl
   rw [h2] at h1
   have h3 := set_all (w := w.setCell ⟨b, pre.length, none⟩ v) vs (pre ++ [v]) old (by simpa using hl) h1
   rw [List.length_append] at h3
   rw [List.append_assoc] at h3
   exact h3
theorem store_st {w : World} {b : Nat} {s s' : St} {t : TypeId} (h : w.heap[b]? = some (.cells (stL s).toArray t)) :
 (Instr.storeAt 66 (.pointer (some ⟨b, 0, none⟩)) (.agg (stL s').toArray)).run Try.prog w = .ok () (w.setCells b 0 (stL s')) ∧ (w.setCells b 0 (stL s')).heap[b]? = some (.cells (stL s').toArray t) ∧ Only b w (w.setCells b 0 (stL s')) := by
 have hz : (stL s').toArray.size = 68 := by rw [List.size_toArray, st_len]
 refine ⟨run_storeAt_mid w b 0 66 (stL s').toArray (by rw [hz]; exact there_st h) (by rw [hz]; exact info_st) (all_oneCell_toArray (st_one s')), ?_, ?_⟩
 ·have := set_all (w := w) (b := b) (t := t) (stL s') [] (stL s) (by rw [st_len, st_len]) h
  exact this
 ·have : ∀ (vs : List Value) (o : Nat) (w : World), Only b w (w.setCells b o vs) := by
   intro vs
   induction vs with
   | nil => intro o w; exact Only.refl b w
   | cons v vs ih => intro o w; exact ((Only.refl b w).setCell (p := ⟨b, o, none⟩) rfl v).trans (ih _ _)
  exact this _ _ _
theorem st_s0 (s : St) (x : Nat) : (stL s).toArray.setIfInBounds 0 (.int .u64 (x : Int)) = (stL { s with lk := x }).toArray := by rw [List.setIfInBounds_toArray]; rfl
theorem st_s1 (s : St) (x : Nat) : (stL s).toArray.setIfInBounds 1 (.int .u64 (x : Int)) = (stL { s with us := x }).toArray := by rw [List.setIfInBounds_toArray]; rfl
theorem st_s2 (s : St) (x : Nat) : (stL s).toArray.setIfInBounds 2 (.int .u64 (x : Int)) = (stL { s with ca := x }).toArray := by rw [List.setIfInBounds_toArray]; rfl
theorem st_tm9 (s : St) {n : Nat} (h : n < 64) : (stL s).toArray[3 + n]? = some (.int .u8 (s.tm n : Int)) := by rw [List.getElem?_toArray]; exact st_tm s h
theorem st_stm (s : St) (x : Nat) {n : Nat} (h : n < 64) : (stL s).toArray.setIfInBounds (3 + n) (.int .u8 (x : Int)) = (stL { s with tm := upd s.tm n x }).toArray := by
 rw [List.setIfInBounds_toArray]
 unfold stL
 rw [show 3 + n = n + 1 + 1 + 1 by omega, List.set_cons_succ, List.set_cons_succ, List.set_cons_succ, List.set_append, if_pos (by rw [tm_len]; exact h), tm_set]
theorem st_spt (s : St) (x : Nat) : (stL s).toArray.setIfInBounds 67 (.int .u32 (x : Int)) = (stL { s with pt := x }).toArray := by
 rw [List.setIfInBounds_toArray]
 unfold stL
 rw [show 67 = 64 + 1 + 1 + 1 by omega, List.set_cons_succ, List.set_cons_succ, List.set_cons_succ, List.set_append, if_neg (by rw [tm_len]; omega), tm_len]
 rfl
theorem zero_st : Try.zeroCells66 = (stL zS).toArray := by kernel_rfl
theorem low_bit (x k i : Nat) : (x &&& (pw k - 1)).testBit i = (x.testBit i && decide (i < k)) := by rw [Nat.testBit_and, pw, Nat.testBit_two_pow_sub_one]
theorem low_no {x k : Nat} (h : hasBit x k = false) : x &&& (pw (k + 1) - 1) = x &&& (pw k - 1) := by
 refine Nat.eq_of_testBit_eq fun i => ?_
 rw [low_bit, low_bit]
 rw [hasBit_test] at h
 by_cases e : i = k
 ·subst e; rw [h]; simp
 ·simp [show (i < k + 1) = (i < k) from propext ⟨fun _ => by omega, fun _ => by omega⟩]
theorem low_yes {x k : Nat} (h : hasBit x k = true) : x &&& (pw (k + 1) - 1) = withBit (x &&& (pw k - 1)) k := by
 refine Nat.eq_of_testBit_eq fun i => ?_
 rw [low_bit, withBit_or, Nat.testBit_or, low_bit, pw, Nat.testBit_two_pow]
 rw [hasBit_test] at h
 by_cases e : i = k
 ·subst e; rw [h]; simp
 ·simp [show (i < k + 1) = (i < k) from propext ⟨fun _ => by omega, fun _ => by omega⟩, show ¬ k = i from fun h => e h.symm]
theorem and_with {y x k : Nat} (h : hasBit y k = true) : y &&& withBit x k = withBit (y &&& x) k := by
 refine Nat.eq_of_testBit_eq fun i => ?_
 rw [withBit_or, withBit_or, Nat.testBit_and, Nat.testBit_or, Nat.testBit_or, Nat.testBit_and, pw, Nat.testBit_two_pow]
 rw [hasBit_test] at h
 by_cases e : k = i
 ·subst e; rw [h]; simp
 ·simp [e]
theorem and_wout {y x k : Nat} (h : hasBit y k = false) : y &&& withBit x k = y &&& x := by
 refine Nat.eq_of_testBit_eq fun i => ?_
 rw [withBit_or, Nat.testBit_and, Nat.testBit_or, Nat.testBit_and, pw, Nat.testBit_two_pow]
 rw [hasBit_test] at h
 by_cases e : k = i
 ·subst e; rw [h]; simp
 ·simp [e]
theorem has_with (x k i : Nat) : hasBit (withBit x k) i = (hasBit x i || decide (k = i)) := by
 rw [hasBit_test, hasBit_test, withBit_or, Nat.testBit_or, pw, Nat.testBit_two_pow]
theorem tidy_zero (P : Nat) (s : St) : tidyS 0 P s = { zS with pt := s.pt &&& (pw P - 1) } := by
 have e : s.lk &&& (pw 0 - 1) = 0 := by rw [pw_zero]; exact Nat.and_zero _
 have hz : ∀ i, hasBit 0 i = false := fun i => by rw [hasBit_test]; exact Nat.zero_testBit i
 unfold tidyS
 simp only [e, Nat.and_zero, hz]
 rfl
theorem tidy_no {k : Nat} (P : Nat) {s : St} (h : hasBit s.lk k = false) : tidyS (k + 1) P s = tidyS k P s := by
 unfold tidyS; rw [low_no h]
theorem tidy_yes {k : Nat} (P : Nat) {s : St} (h : hasBit s.lk k = true) : tidyS (k + 1) P s = { tidyS k P s with lk := withBit (tidyS k P s).lk k, us := if hasBit s.us k then withBit (tidyS k P s).us k else (tidyS k P s).us, ca := if hasBit s.ca k then withBit (tidyS k P s).ca k else (tidyS k P s).ca, tm := if hasBit s.ca k then upd (tidyS k P s).tm k (min (s.tm k) 20) else (tidyS k P s).tm } := by
 unfold tidyS
 rw [low_yes h]
 have e1 : s.us &&& withBit (s.lk &&& (pw k - 1)) k = if hasBit s.us k then withBit (s.us &&& (s.lk &&& (pw k - 1))) k else s.us &&& (s.lk &&& (pw k - 1)) := by
  cases hu : hasBit s.us k with
  | false => rw [and_wout hu]; rfl
  | true => rw [and_with hu]; rfl
 have e2 : s.ca &&& withBit (s.lk &&& (pw k - 1)) k = if hasBit s.ca k then withBit (s.ca &&& (s.lk &&& (pw k - 1))) k else s.ca &&& (s.lk &&& (pw k - 1)) := by
  cases hu : hasBit s.ca k with
  | false => rw [and_wout hu]; rfl
  | true => rw [and_with hu]; rfl
 rw [e1, e2]
 congr 1
 cases hc : hasBit s.ca k with
 | false => rfl
 | true =>
   simp only [if_true]
   funext n
   unfold upd
   rw [has_with]
   by_cases e : n = k
   ·subst e; simp
   ·simp [e, show ¬ k = n from fun h => e h.symm]
theorem tidy_ok (k P : Nat) {s : St} (h : s.ok) : (tidyS k P s).ok :=
 ⟨Nat.lt_of_le_of_lt Nat.and_le_left h.lk, Nat.lt_of_le_of_lt Nat.and_le_left h.us, Nat.lt_of_le_of_lt Nat.and_le_left h.ca, fun n => by
  show (if _ then min (s.tm n) 20 else 0) ≤ 255
  split
  ·exact Nat.le_trans (Nat.min_le_right _ _) (by omega)
  ·omega, Nat.lt_of_le_of_lt Nat.and_le_left h.pt⟩
attribute [local irreducible] Sl.v hasBit pw withBit woBit cyL stL stV tmL freeS ndBad maySet ptL setS mayCan canS canD nedS flipB mayMov movS comG relS rouS proS tidyS comsG rousS prosS nextG outS lnOk rightK rgtS eqS Mc.tb upd mayS checkS sideN
set_option maxHeartbeats 8000000 in
theorem tidy_nil (s : St) (w : World) :
 Calls Try.prog 17 #[.pointer none, .agg (stL s).toArray] w fun e w' => e = .returned (.agg (stL zS).toArray) ∧ Below w.heap.size w w' := by
 go_enter Try.func17, Try.ntmps17
 go_upto_region 3 with fail
 rw [zero_st]
 refine name_last (os := [.cells (stL s).toArray 66, .cells (stL zS).toArray 66, .cells (stL zS).toArray 66]) (w0 := w) rfl ?_
 intro W hat hbw
 obtain ⟨g3, hg3⟩ : ∃ g, g = w.heap.size := ⟨_, rfl⟩
 obtain ⟨g4, hg4⟩ : ∃ g, g = g3 + 1 := ⟨_, rfl⟩
 obtain ⟨g5, hg5⟩ : ∃ g, g = g4 + 1 := ⟨_, rfl⟩
 have q0 := hat 0 _ rfl
 have q1 := hat 1 _ rfl
 have q2 := hat 2 _ rfl
 rw [Nat.add_zero, ← hg3] at q0
 rw [← hg3, ← hg4] at q1
 rw [← hg3, show g3 + 2 = g5 by omega] at q2
 rw [← hg3, ← hg4, ← hg5]
 have HQ3 := Lib.hid q0
 have HQ4 := Lib.hid q1
 have HQ5 := Lib.hid q2
 have HBW := Lib.hid hbw
 have HG : Hid (g3 ≠ g5 ∧ g4 ≠ g5 ∧ w.heap.size ≤ g5 ∧ w.heap.size ≤ g4) := Lib.hid (by omega)
 clear hat q0 q1 q2 hg3 hg4 hg5
 have HLD := Lib.hid (load_st HQ5.out)
 obtain ⟨hst, hq9, ho9⟩ := store_st (s' := zS) HQ4.out
 have HST := Lib.hid hst
 have HQ9 := Lib.hid hq9
 have HB9 : Hid (Below w.heap.size w (W.setCells g4 0 (stL zS))) := Lib.hid (Only.below HBW.out HG.out.2.2.2 HBW.out.size ho9)
 clear hst hq9 ho9
 go_wp2_with (first
  | (refine wpList_load_is (op := ⟨some 9, _, _, _, _, _⟩) rfl 66 _ rfl _ _ rfl HLD.out ?_)
  | (refine wpList_store_is (op := ⟨none, .store 66 _ _, _, _, _, _⟩) rfl 66 _ _ rfl _ _ rfl rfl _ HST.out ?_))
 (try simp only [Exit.inBlock, Exit.then])
 refine bodyPost_ret (results_cell_row (g := g4) rfl _ _ 66 (stL zS).toArray (0, 0) _ rfl HQ9.out Try.underlying66 rfl (by rw [List.size_toArray, st_len]; exact info_st)) rfl ?_
 exact ⟨rfl, HB9.out⟩

set_option maxHeartbeats 16000000 in
theorem tidy_is (X : Nat → Prop) (m : Nat) (M : Mc) (s : St) (N1 P : Nat) (w : World) (hM : MachX X w m M) (hN : M.ln.l.length = N1) (hle : N1 ≤ 64) (hp : M.pt = pw P - 1) (hp2 : P ≤ 32) (hs : s.ok) :
 Calls Try.prog 17 #[.pointer (some ⟨m, 0, none⟩), .agg (stL s).toArray] w fun e w' => e = .returned (.agg (stL (tidyS N1 P s)).toArray) ∧ Below w.heap.size w w' := by
 have HMP : Hid (M.pt < 4294967296) := Lib.hid (by
  rw [hp]
  have h1 := Nat.pow_le_pow_right (n := 2) (by omega) hp2
  have h2 := pw_pos P
  rw [pw_eq]; omega)
 have HAND : Hid (bits .and .u32 (s.pt : Int) (M.pt : Int) = ((s.pt &&& M.pt : Nat) : Int)) := Lib.hid (u32_and_nat s.pt M.pt hs.pt HMP.out)
 have HSO := Lib.hid hs
 have HPT := Lib.hid hp
 have HN1 := Lib.hid hN
 have HLE := Lib.hid hle
 have HM := Lib.hid hM
 clear hM hN hle hp hs hp2
 go_enter Try.func17, Try.ntmps17
 go_upto_region 4 with fail
 rw [zero_st]
 refine name_last (os := [.cells (stL s).toArray 66, .cells (stL zS).toArray 66, .cells (stL zS).toArray 66]) (w0 := w) rfl ?_
 intro W hat hbw
 obtain ⟨g3, hg3⟩ : ∃ g, g = w.heap.size := ⟨_, rfl⟩
 obtain ⟨g4, hg4⟩ : ∃ g, g = g3 + 1 := ⟨_, rfl⟩
 obtain ⟨g5, hg5⟩ : ∃ g, g = g4 + 1 := ⟨_, rfl⟩
 have q0 := hat 0 _ rfl
 have q1 := hat 1 _ rfl
 have q2 := hat 2 _ rfl
 rw [Nat.add_zero, ← hg3] at q0
 rw [← hg3, ← hg4] at q1
 rw [← hg3, show g3 + 2 = g5 by omega] at q2
 rw [← hg3, ← hg4, ← hg5]
 have HQ3 := Lib.hid q0
 have HQ4 := Lib.hid q1
 have HQ5 := Lib.hid q2
 have HBW := Lib.hid hbw
 have HG : Hid (g3 ≠ g5 ∧ g4 ≠ g5 ∧ w.heap.size ≤ g5 ∧ w.heap.size ≤ g4) := Lib.hid (by omega)
 clear hat q0 q1 q2 hg3 hg4 hg5
 have HM3 : Hid (W.cell? ⟨m, 3, none⟩ = some (.int .u32 (M.pt : Int))) := Lib.hid (blk_cell (blk_keep hbw HM.out.blk) 3 _ rfl)
 have HMB := Lib.hid (blk_keep hbw HM.out.blk)
 have HG5 : Hid (m ≠ g5 ∧ True) := Lib.hid ⟨by have h1 := blk_lt HM.out.blk; have h2 := HG.out.2.2.1; omega, trivial⟩
 clear hbw
 refine wp_region_rel (by kernel_rfl) [8] 11 [0, 1, 2, 3, 4, 5, 6, 7] [10, 11, 12, 13, 14, 15, 16, 17] #[true, true, true, true, true, true, true, true, false] 1 [(fun v _ => v = .pointer (some ⟨g3, 67, none⟩)), (fun v _ => v = .int .u32 (s.pt : Int)), (fun v _ => v = .pointer (some ⟨m, 0, none⟩)), (fun v _ => v = .pointer (some ⟨m, 0, none⟩)), (fun v _ => v = .pointer (some ⟨m, 3, none⟩)), (fun v _ => v = .int .u32 (M.pt : Int)), (fun v _ => v = .int .u32 ((s.pt &&& M.pt : Nat) : Int)), (fun v _ => v = .pointer (some ⟨g5, 67, none⟩)), (fun _ _ => True)] (by kernel_rfl) (by kernel_rfl) (by kernel_rfl) (by kernel_rfl) (by kernel_rfl) rfl (by kernel_rfl) rfl ?_ ?_ ?_
 ·exact ⟨stays_is _, stays_is _, stays_is _, stays_is _, stays_is _, stays_is _, stays_is _, stays_is _, stays_true, trivial⟩
 ·refine ⟨?_, ?_, ?_, ?_, ?_, ?_, ?_, ?_, trivial⟩
  ·refine relOb_mk (o := ⟨some 10, _, _, _, _, _⟩) rfl (fun r V hc hf hg hs hb hd => ?_)
   have x3 : r (.tmp 3) = .pointer (some ⟨g3, 0, none⟩) := hs 3 (by kernel_rfl)
   clear hs hd hg
   go_simp
   exact ⟨Below.refl _ _, rfl⟩
  ·refine relOb_mk (o := ⟨some 11, _, _, _, _, _⟩) rfl (fun r V hc hf hg hs hb hd => ?_)
   have h0 : r (.tmp 10) = .pointer (some ⟨g3, 67, none⟩) := hd 0 10 rfl (by kernel_rfl)
   clear hs hd hg
   have l := blk_cell (blk_keep hb HQ3.out) 67 _ (st_67 s)
   go_simp
   exact ⟨Below.refl _ _, rfl⟩
  ·refine relOb_mk (o := ⟨some 12, _, _, _, _, _⟩) rfl (fun r V hc hf hg hs hb hd => ?_)
   have x0 : r (.tmp 0) = .pointer (some ⟨m, 0, none⟩) := hs 0 (by kernel_rfl)
   clear hs hd hg
   go_simp
   exact ⟨Below.refl _ _, rfl⟩
  ·refine relOb_mk (o := ⟨some 13, _, _, _, _, _⟩) rfl (fun r V hc hf hg hs hb hd => ?_)
   have h2 : r (.tmp 12) = .pointer (some ⟨m, 0, none⟩) := hd 2 12 rfl (by kernel_rfl)
   clear hs hd hg
   go_simp
   exact ⟨Below.refl _ _, rfl⟩
  ·refine relOb_mk (o := ⟨some 14, _, _, _, _, _⟩) rfl (fun r V hc hf hg hs hb hd => ?_)
   have h3 : r (.tmp 13) = .pointer (some ⟨m, 0, none⟩) := hd 3 13 rfl (by kernel_rfl)
   clear hs hd hg
   go_simp
   exact ⟨Below.refl _ _, rfl⟩
  ·refine relOb_mk (o := ⟨some 15, _, _, _, _, _⟩) rfl (fun r V hc hf hg hs hb hd => ?_)
   have h4 : r (.tmp 14) = .pointer (some ⟨m, 3, none⟩) := hd 4 14 rfl (by kernel_rfl)
   clear hs hd hg
   have l := cell_later hb HM3.out
   go_simp
   exact ⟨Below.refl _ _, rfl⟩
  ·refine relOb_mk (o := ⟨some 16, _, _, _, _, _⟩) rfl (fun r V hc hf hg hs hb hd => ?_)
   have h1 : r (.tmp 11) = .int .u32 (s.pt : Int) := hd 1 11 rfl (by kernel_rfl)
   have h5 : r (.tmp 15) = .int .u32 (M.pt : Int) := hd 5 15 rfl (by kernel_rfl)
   clear hs hd hg
   have ho1 := HAND.out
   go_simp
   exact ⟨Below.refl _ _, rfl⟩
  ·refine relOb_mk (o := ⟨some 17, _, _, _, _, _⟩) rfl (fun r V hc hf hg hs hb hd => ?_)
   have x5 : r (.tmp 5) = .pointer (some ⟨g5, 0, none⟩) := hs 5 (by kernel_rfl)
   clear hs hd hg
   go_simp
   exact ⟨Below.refl _ _, rfl⟩
 ·intro a V hb hx
  have h0 : a.eval (.tmp 10) = .pointer (some ⟨g3, 67, none⟩) := hx 0 10 rfl rfl
  have h1 : a.eval (.tmp 11) = .int .u32 (s.pt : Int) := hx 1 11 rfl rfl
  have h2 : a.eval (.tmp 12) = .pointer (some ⟨m, 0, none⟩) := hx 2 12 rfl rfl
  have h3 : a.eval (.tmp 13) = .pointer (some ⟨m, 0, none⟩) := hx 3 13 rfl rfl
  have h4 : a.eval (.tmp 14) = .pointer (some ⟨m, 3, none⟩) := hx 4 14 rfl rfl
  have h5 : a.eval (.tmp 15) = .int .u32 (M.pt : Int) := hx 5 15 rfl rfl
  have h6 : a.eval (.tmp 16) = .int .u32 ((s.pt &&& M.pt : Nat) : Int) := hx 6 16 rfl rfl
  have h7 : a.eval (.tmp 17) = .pointer (some ⟨g5, 67, none⟩) := hx 7 17 rfl rfl
  unfold fillAll
  simp only [List.foldl_cons, List.foldl_nil, h0, h1, h2, h3, h4, h5, h6, h7, Act.put, List.setIfInBounds_toArray, List.set_cons_zero, List.set_cons_succ]
  clear h0 h1 h2 h3 h4 h5 h6 h7 hx
  have HXW := Lib.hid (WX.refl (fun b => b = g5) W)
  have HOV := Lib.hid (blk_keep hb HQ5.out)
  have HXV := Lib.hid (HXW.out.trans (WX.of_below hb))
  clear hb HQ5 HXW
  refine wpAny_ready (rs := [8]) (by kernel_rfl) (by simp) (AllReady.cons (o := ⟨none, _, _, _, _, _⟩) rfl (fun K hK => ?_) AllReady.nil)
  have c0 := blk_cell HOV.out 67 _ (st_67 _)
  have f0 := blk_free HOV.out 67
  have hl := blk_lt HOV.out
  go_simp
  clear c0 f0 hl
  refine name_K ?_
  intro Vz hVz
  have ho : Only g5 V Vz := by rw [hVz]; exact (Only.refl g5 V).setCell rfl _
  have HOz : Hid (Vz.heap[g5]? = some (.cells (stL ({ zS with pt := s.pt &&& M.pt } : St)).toArray 66)) := Lib.hid (by rw [hVz]; exact (blk_set HOV.out 67 _).trans (congrArg (fun C => some (Obj.cells C 66)) (st_spt _ _)))
  have HXz := Lib.hid (HXV.out.trans (WX.of_only (X := fun b => b = g5) ho rfl))
  clear hVz ho HOV HXV
  refine hK _ _ ?_
  clear hK K
  refine wpAny_done (by kernel_rfl) ?_ _
  have HO0 : Hid (Vz.heap[g5]? = some (.cells (stL (tidyS 0 P s)).toArray 66)) := Lib.hid (by rw [tidy_zero, ← HPT.out]; exact HOz.out)
  have c0 := blk_cell (HXz.out.keep HG5.out.1 HMB.out) 0 _ rfl
  rw [slv HN1.out] at c0
  go_upto_region 6 with fail
  clear c0 HOz
  go_loopg [23] N1 (fun g v wr => ∃ k : Nat, k + g = N1 ∧ v = .int .i64 (k : Int) ∧ wr.heap[g5]? = some (.cells (stL (tidyS k P s)).toArray 66) ∧ WX (fun b => b = g5) W wr)
  case atStart => exact ⟨0, by omega, rfl, HO0.out, HXz.out⟩
  case round =>
   obtain ⟨k, hk, rfl, hoq, hxq⟩ := hrel
   have HK := Lib.hid hk
   have HXR := Lib.hid hxq
   have HOQ := Lib.hid hoq
   clear hk hxq hoq HO0 HXz
   by_cases hlt : k < N1
   ·have d1 : (0 : Int) ≤ k := by omega
    have d2 : (k : Int) < N1 := by omega
    have e1 := k_succ hlt (Nat.le_trans HLE.out (by decide))
    have HLT := Lib.hid hlt
    have HK63 : Hid (k ≤ 63) := Lib.hid (by have := HLE.out; omega)
    have HN63 := HK63
    have HK64 : Hid (k < 64) := Lib.hid (by have := HLE.out; omega)
    obtain ⟨t, ht⟩ : ∃ t, tidyS k P s = t := ⟨_, rfl⟩
    have HTO : Hid t.ok := Lib.hid (ht ▸ tidy_ok k P HSO.out)
    have HOR : Hid (wr.heap[g5]? = some (.cells (stL t).toArray 66)) := Lib.hid (ht ▸ HOQ.out)
    have HT := Lib.hid ht
    obtain ⟨bl, hbl⟩ : ∃ b, hasBit s.lk k = b := ⟨_, rfl⟩
    obtain ⟨bu, hbu⟩ : ∃ b, hasBit s.us k = b := ⟨_, rfl⟩
    obtain ⟨bc, hbc⟩ : ∃ b, hasBit s.ca k = b := ⟨_, rfl⟩
    obtain ⟨tk, htk⟩ : ∃ b, s.tm k = b := ⟨_, rfl⟩
    have HIL : Hid (∀ V, Calls Try.prog 32 #[.int .u64 (s.lk : Int), .int .i64 (k : Int)] V fun e w' => e = .returned (.bool bl) ∧ V = w') := Lib.hid (fun V => in_is bl s.lk k V HK63.out HSO.out.lk hbl)
    have HIU : Hid (∀ V, Calls Try.prog 32 #[.int .u64 (s.us : Int), .int .i64 (k : Int)] V fun e w' => e = .returned (.bool bu) ∧ V = w') := Lib.hid (fun V => in_is bu s.us k V HK63.out HSO.out.us hbu)
    have HIC : Hid (∀ V, Calls Try.prog 32 #[.int .u64 (s.ca : Int), .int .i64 (k : Int)] V fun e w' => e = .returned (.bool bc) ∧ V = w') := Lib.hid (fun V => in_is bc s.ca k V HK63.out HSO.out.ca hbc)
    have HBL := Lib.hid hbl
    have HBU := Lib.hid hbu
    have HBC := Lib.hid hbc
    have HTMK := Lib.hid htk
    have HTK : Hid ((stL s).toArray[3 + k]? = some (.int .u8 (tk : Int))) := Lib.hid (by rw [st_tm9 s HK64.out, htk])
    have y0 := blk_cell (HXR.out.keep HG.out.1 HQ3.out) 0 _ (st_0 s)
    clear hlt ht hbl hbu hbc htk HOQ
    go_wp2_with fail
    refine (HIL.out _).mono ?_
    rintro e w' ⟨rfl, rfl⟩
    clear y0
    cases bl with
    | false =>
      go_wp2_with fail
      go_roundg (N1 - (k + 1))
      case rel => exact ⟨k + 1, k_next HK.out HLT.out, by go_num, by rw [tidy_no _ HBL.out, HT.out]; exact HOR.out, HXR.out⟩
      case measure => exact k_less HK.out HLT.out
    | true =>
      go_upto_region 9 with fail
      refine wp_region_rel (by kernel_rfl) [6] 9 [0, 1, 2, 3, 4, 5] [31, 32, 33, 34, 35, 36] #[true, true, true, true, true, true, false] 1 [(fun v _ => v = .pointer (some ⟨g5, 0, none⟩)), (fun v _ => v = .int .u64 (t.lk : Int)), (fun v _ => v = .int .i64 (k : Int)), (fun v _ => v = .int .u64 (pw k : Int)), (fun v _ => v = .int .u64 ((withBit t.lk k : Nat) : Int)), (fun v _ => v = .pointer (some ⟨g5, 0, none⟩)), (fun _ _ => True)] (by kernel_rfl) (by kernel_rfl) (by kernel_rfl) (by kernel_rfl) (by kernel_rfl) rfl (by kernel_rfl) rfl ?_ ?_ ?_
      ·exact ⟨stays_is _, stays_is _, stays_is _, stays_is _, stays_is _, stays_is _, stays_true, trivial⟩
      ·refine ⟨?_, ?_, ?_, ?_, ?_, ?_, trivial⟩
       ·refine relOb_mk (o := ⟨some 31, _, _, _, _, _⟩) rfl (fun r V hc hf hg hs hb hd => ?_)
        have x5 : r (.tmp 5) = .pointer (some ⟨g5, 0, none⟩) := hs 5 (by kernel_rfl)
        clear hs hd hg
        go_simp
        exact ⟨Below.refl _ _, rfl⟩
       ·refine relOb_mk (o := ⟨some 32, _, _, _, _, _⟩) rfl (fun r V hc hf hg hs hb hd => ?_)
        have h0 : r (.tmp 31) = .pointer (some ⟨g5, 0, none⟩) := hd 0 31 rfl (by kernel_rfl)
        clear hs hd hg
        have l := blk_cell (blk_keep hb HOR.out) 0 _ (st_0 _)
        go_simp
        exact ⟨Below.refl _ _, rfl⟩
       ·refine relOb_mk (o := ⟨some 33, _, _, _, _, _⟩) rfl (fun r V hc hf hg hs hb hd => ?_)
        have x6 : r (.tmp 6) = .int .i64 (k : Int) := hs 6 (by kernel_rfl)
        clear hs hd hg
        go_simp
        exact ⟨Below.refl _ _, rfl⟩
       ·refine relOb_mk (o := ⟨some 34, _, _, _, _, _⟩) rfl (fun r V hc hf hg hs hb hd => ?_)
        have h2 : r (.tmp 33) = .int .i64 (k : Int) := hd 2 33 rfl (by kernel_rfl)
        clear hs hd hg
        have h63 := HN63.out
        have h0 : (0 : Int) ≤ k := by omega
        have h1 : min k 64 = k := by omega
        have h2 : ¬ (64 : Int) ≤ k := by omega
        have hs1 := one_form k h63
        go_simp
        exact ⟨Below.refl _ _, by simp⟩
       ·refine relOb_mk (o := ⟨some 35, _, _, _, _, _⟩) rfl (fun r V hc hf hg hs hb hd => ?_)
        have h1 : r (.tmp 32) = .int .u64 (t.lk : Int) := hd 1 32 rfl (by kernel_rfl)
        have h3 : r (.tmp 34) = .int .u64 (pw k : Int) := hd 3 34 rfl (by kernel_rfl)
        clear hs hd hg
        have ho1 := or_form t.lk k HK63.out HTO.out.lk
        go_simp
        exact ⟨Below.refl _ _, rfl⟩
       ·refine relOb_mk (o := ⟨some 36, _, _, _, _, _⟩) rfl (fun r V hc hf hg hs hb hd => ?_)
        have x5 : r (.tmp 5) = .pointer (some ⟨g5, 0, none⟩) := hs 5 (by kernel_rfl)
        clear hs hd hg
        go_simp
        exact ⟨Below.refl _ _, rfl⟩
      ·intro a V hb hx
       have h0 : a.eval (.tmp 31) = .pointer (some ⟨g5, 0, none⟩) := hx 0 31 rfl rfl
       have h1 : a.eval (.tmp 32) = .int .u64 (t.lk : Int) := hx 1 32 rfl rfl
       have h2 : a.eval (.tmp 33) = .int .i64 (k : Int) := hx 2 33 rfl rfl
       have h3 : a.eval (.tmp 34) = .int .u64 (pw k : Int) := hx 3 34 rfl rfl
       have h4 : a.eval (.tmp 35) = .int .u64 ((withBit t.lk k : Nat) : Int) := hx 4 35 rfl rfl
       have h5 : a.eval (.tmp 36) = .pointer (some ⟨g5, 0, none⟩) := hx 5 36 rfl rfl
       unfold fillAll
       simp only [List.foldl_cons, List.foldl_nil, h0, h1, h2, h3, h4, h5, Act.put, List.setIfInBounds_toArray, List.set_cons_zero, List.set_cons_succ]
       clear h0 h1 h2 h3 h4 h5 hx
       have HOV := Lib.hid (blk_keep hb HOR.out)
       have HXV := Lib.hid (HXR.out.trans (WX.of_below hb))
       clear hb HOR HXR
       refine wpAny_ready (rs := [6]) (by kernel_rfl) (by simp) (AllReady.cons (o := ⟨none, _, _, _, _, _⟩) rfl (fun K hK => ?_) AllReady.nil)
       have c0 := blk_cell HOV.out 0 _ (st_0 _)
       have f0 := blk_free HOV.out 0
       have hl := blk_lt HOV.out
       go_simp
       clear c0 f0 hl
       refine name_K ?_
       intro Va hVa
       have ho : Only g5 V Va := by rw [hVa]; exact (Only.refl g5 V).setCell rfl _
       have HOa : Hid (Va.heap[g5]? = some (.cells (stL ({ t with lk := withBit t.lk k } : St)).toArray 66)) := Lib.hid (by rw [hVa]; exact (blk_set HOV.out 0 _).trans (congrArg (fun C => some (Obj.cells C 66)) (st_s0 _ _)))
       have HXa := Lib.hid (HXV.out.trans (WX.of_only (X := fun b => b = g5) ho rfl))
       clear hVa ho HOV HXV
       refine hK _ _ ?_
       clear hK K
       refine wpAny_done (by kernel_rfl) ?_ _
       have y1 := blk_cell (HXa.out.keep HG.out.1 HQ3.out) 1 _ (st_1 s)
       go_wp2_with fail
       refine (HIU.out _).mono ?_
       rintro e w' ⟨rfl, rfl⟩
       clear y1
       cases bu with
       | false =>
         have y2 := blk_cell (HXa.out.keep HG.out.1 HQ3.out) 2 _ (st_2 s)
         go_wp2_with fail
         refine (HIC.out _).mono ?_
         rintro e w' ⟨rfl, rfl⟩
         clear y2
         cases bc with
         | false =>
           go_wp2_with fail
           go_roundg (N1 - (k + 1))
           case rel => exact ⟨k + 1, k_next HK.out HLT.out, by go_num, by rw [tidy_yes _ HBL.out, HT.out, HBU.out, HBC.out]; exact HOa.out, HXa.out⟩
           case measure => exact k_less HK.out HLT.out
         | true =>
           go_upto_region 13 with fail
           refine wp_region_rel (by kernel_rfl) [6] 9 [0, 1, 2, 3, 4, 5] [51, 52, 53, 54, 55, 56] #[true, true, true, true, true, true, false] 1 [(fun v _ => v = .pointer (some ⟨g5, 2, none⟩)), (fun v _ => v = .int .u64 (t.ca : Int)), (fun v _ => v = .int .i64 (k : Int)), (fun v _ => v = .int .u64 (pw k : Int)), (fun v _ => v = .int .u64 ((withBit t.ca k : Nat) : Int)), (fun v _ => v = .pointer (some ⟨g5, 2, none⟩)), (fun _ _ => True)] (by kernel_rfl) (by kernel_rfl) (by kernel_rfl) (by kernel_rfl) (by kernel_rfl) rfl (by kernel_rfl) rfl ?_ ?_ ?_
           ·exact ⟨stays_is _, stays_is _, stays_is _, stays_is _, stays_is _, stays_is _, stays_true, trivial⟩
           ·refine ⟨?_, ?_, ?_, ?_, ?_, ?_, trivial⟩
            ·refine relOb_mk (o := ⟨some 51, _, _, _, _, _⟩) rfl (fun r V hc hf hg hs hb hd => ?_)
             have x5 : r (.tmp 5) = .pointer (some ⟨g5, 0, none⟩) := hs 5 (by kernel_rfl)
             clear hs hd hg
             go_simp
             exact ⟨Below.refl _ _, rfl⟩
            ·refine relOb_mk (o := ⟨some 52, _, _, _, _, _⟩) rfl (fun r V hc hf hg hs hb hd => ?_)
             have h0 : r (.tmp 51) = .pointer (some ⟨g5, 2, none⟩) := hd 0 51 rfl (by kernel_rfl)
             clear hs hd hg
             have l := blk_cell (blk_keep hb HOa.out) 2 _ (st_2 _)
             go_simp
             exact ⟨Below.refl _ _, rfl⟩
            ·refine relOb_mk (o := ⟨some 53, _, _, _, _, _⟩) rfl (fun r V hc hf hg hs hb hd => ?_)
             have x6 : r (.tmp 6) = .int .i64 (k : Int) := hs 6 (by kernel_rfl)
             clear hs hd hg
             go_simp
             exact ⟨Below.refl _ _, rfl⟩
            ·refine relOb_mk (o := ⟨some 54, _, _, _, _, _⟩) rfl (fun r V hc hf hg hs hb hd => ?_)
             have h2 : r (.tmp 53) = .int .i64 (k : Int) := hd 2 53 rfl (by kernel_rfl)
             clear hs hd hg
             have h63 := HN63.out
             have h0 : (0 : Int) ≤ k := by omega
             have h1 : min k 64 = k := by omega
             have h2 : ¬ (64 : Int) ≤ k := by omega
             have hs1 := one_form k h63
             go_simp
             exact ⟨Below.refl _ _, by simp⟩
            ·refine relOb_mk (o := ⟨some 55, _, _, _, _, _⟩) rfl (fun r V hc hf hg hs hb hd => ?_)
             have h1 : r (.tmp 52) = .int .u64 (t.ca : Int) := hd 1 52 rfl (by kernel_rfl)
             have h3 : r (.tmp 54) = .int .u64 (pw k : Int) := hd 3 54 rfl (by kernel_rfl)
             clear hs hd hg
             have ho1 := or_form t.ca k HK63.out HTO.out.ca
             go_simp
             exact ⟨Below.refl _ _, rfl⟩
            ·refine relOb_mk (o := ⟨some 56, _, _, _, _, _⟩) rfl (fun r V hc hf hg hs hb hd => ?_)
             have x5 : r (.tmp 5) = .pointer (some ⟨g5, 0, none⟩) := hs 5 (by kernel_rfl)
             clear hs hd hg
             go_simp
             exact ⟨Below.refl _ _, rfl⟩
           ·intro a V hb hx
            have h0 : a.eval (.tmp 51) = .pointer (some ⟨g5, 2, none⟩) := hx 0 51 rfl rfl
            have h1 : a.eval (.tmp 52) = .int .u64 (t.ca : Int) := hx 1 52 rfl rfl
            have h2 : a.eval (.tmp 53) = .int .i64 (k : Int) := hx 2 53 rfl rfl
            have h3 : a.eval (.tmp 54) = .int .u64 (pw k : Int) := hx 3 54 rfl rfl
            have h4 : a.eval (.tmp 55) = .int .u64 ((withBit t.ca k : Nat) : Int) := hx 4 55 rfl rfl
            have h5 : a.eval (.tmp 56) = .pointer (some ⟨g5, 2, none⟩) := hx 5 56 rfl rfl
            unfold fillAll
            simp only [List.foldl_cons, List.foldl_nil, h0, h1, h2, h3, h4, h5, Act.put, List.setIfInBounds_toArray, List.set_cons_zero, List.set_cons_succ]
            clear h0 h1 h2 h3 h4 h5 hx
            have HOV := Lib.hid (blk_keep hb HOa.out)
            have HXV := Lib.hid (HXa.out.trans (WX.of_below hb))
            clear hb HOa HXa
            refine wpAny_ready (rs := [6]) (by kernel_rfl) (by simp) (AllReady.cons (o := ⟨none, _, _, _, _, _⟩) rfl (fun K hK => ?_) AllReady.nil)
            have c0 := blk_cell HOV.out 2 _ (st_2 _)
            have f0 := blk_free HOV.out 2
            have hl := blk_lt HOV.out
            go_simp
            clear c0 f0 hl
            refine name_K ?_
            intro Vc hVc
            have ho : Only g5 V Vc := by rw [hVc]; exact (Only.refl g5 V).setCell rfl _
            have HOc : Hid (Vc.heap[g5]? = some (.cells (stL ({ t with lk := withBit t.lk k, ca := withBit t.ca k } : St)).toArray 66)) := Lib.hid (by rw [hVc]; exact (blk_set HOV.out 2 _).trans (congrArg (fun C => some (Obj.cells C 66)) (st_s2 _ _)))
            have HXc := Lib.hid (HXV.out.trans (WX.of_only (X := fun b => b = g5) ho rfl))
            clear hVc ho HOV HXV
            refine hK _ _ ?_
            clear hK K
            refine wpAny_done (by kernel_rfl) ?_ _
            have y3 := blk_cell (HXc.out.keep HG.out.1 HQ3.out) (3 + k) _ (HTK.out)
            have c3 := blk_cell HOc.out (3 + k) _ (st_tm9 _ HK64.out)
            have f3 := blk_free HOc.out (3 + k)
            have hl3 := blk_lt HOc.out
            have d5 : (0 : Int) ≤ k := by omega
            have d6 : (k : Int) < 64 := by have := HK64.out; omega
            go_upto_region 15 with fail
            refine name_any ?_
            intro WZ hWZ
            clear y3 c3 f3 hl3 d5 d6
            have e20 : ((min tk 20 : Nat) : Int) = min (tk : Int) 20 := by omega
            rw [← e20] at hWZ
            have ho : Only g5 Vc WZ := by rw [hWZ]; exact (Only.refl g5 Vc).setCell rfl _
            have HOE : Hid (WZ.heap[g5]? = some (.cells (stL ({ t with lk := withBit t.lk k, ca := withBit t.ca k, tm := upd t.tm k (min tk 20) } : St)).toArray 66)) := Lib.hid (by rw [hWZ]; exact (blk_set HOc.out (3 + k) _).trans (congrArg (fun C => some (Obj.cells C 66)) (st_stm _ (min tk 20) HK64.out)))
            have HXE := Lib.hid (HXc.out.trans (WX.of_only (X := fun b => b = g5) ho rfl))
            clear hWZ ho HOc HXc e20
            go_wp2_with fail
            go_roundg (N1 - (k + 1))
            case rel => exact ⟨k + 1, k_next HK.out HLT.out, by go_num, by rw [tidy_yes _ HBL.out, HT.out, HBU.out, HBC.out, HTMK.out]; exact HOE.out, HXE.out⟩
            case measure => exact k_less HK.out HLT.out
       | true =>
         go_upto_region 11 with fail
         refine wp_region_rel (by kernel_rfl) [6] 9 [0, 1, 2, 3, 4, 5] [41, 42, 43, 44, 45, 46] #[true, true, true, true, true, true, false] 1 [(fun v _ => v = .pointer (some ⟨g5, 1, none⟩)), (fun v _ => v = .int .u64 (t.us : Int)), (fun v _ => v = .int .i64 (k : Int)), (fun v _ => v = .int .u64 (pw k : Int)), (fun v _ => v = .int .u64 ((withBit t.us k : Nat) : Int)), (fun v _ => v = .pointer (some ⟨g5, 1, none⟩)), (fun _ _ => True)] (by kernel_rfl) (by kernel_rfl) (by kernel_rfl) (by kernel_rfl) (by kernel_rfl) rfl (by kernel_rfl) rfl ?_ ?_ ?_
         ·exact ⟨stays_is _, stays_is _, stays_is _, stays_is _, stays_is _, stays_is _, stays_true, trivial⟩
         ·refine ⟨?_, ?_, ?_, ?_, ?_, ?_, trivial⟩
          ·refine relOb_mk (o := ⟨some 41, _, _, _, _, _⟩) rfl (fun r V hc hf hg hs hb hd => ?_)
           have x5 : r (.tmp 5) = .pointer (some ⟨g5, 0, none⟩) := hs 5 (by kernel_rfl)
           clear hs hd hg
           go_simp
           exact ⟨Below.refl _ _, rfl⟩
          ·refine relOb_mk (o := ⟨some 42, _, _, _, _, _⟩) rfl (fun r V hc hf hg hs hb hd => ?_)
           have h0 : r (.tmp 41) = .pointer (some ⟨g5, 1, none⟩) := hd 0 41 rfl (by kernel_rfl)
           clear hs hd hg
           have l := blk_cell (blk_keep hb HOa.out) 1 _ (st_1 _)
           go_simp
           exact ⟨Below.refl _ _, rfl⟩
          ·refine relOb_mk (o := ⟨some 43, _, _, _, _, _⟩) rfl (fun r V hc hf hg hs hb hd => ?_)
           have x6 : r (.tmp 6) = .int .i64 (k : Int) := hs 6 (by kernel_rfl)
           clear hs hd hg
           go_simp
           exact ⟨Below.refl _ _, rfl⟩
          ·refine relOb_mk (o := ⟨some 44, _, _, _, _, _⟩) rfl (fun r V hc hf hg hs hb hd => ?_)
           have h2 : r (.tmp 43) = .int .i64 (k : Int) := hd 2 43 rfl (by kernel_rfl)
           clear hs hd hg
           have h63 := HN63.out
           have h0 : (0 : Int) ≤ k := by omega
           have h1 : min k 64 = k := by omega
           have h2 : ¬ (64 : Int) ≤ k := by omega
           have hs1 := one_form k h63
           go_simp
           exact ⟨Below.refl _ _, by simp⟩
          ·refine relOb_mk (o := ⟨some 45, _, _, _, _, _⟩) rfl (fun r V hc hf hg hs hb hd => ?_)
           have h1 : r (.tmp 42) = .int .u64 (t.us : Int) := hd 1 42 rfl (by kernel_rfl)
           have h3 : r (.tmp 44) = .int .u64 (pw k : Int) := hd 3 44 rfl (by kernel_rfl)
           clear hs hd hg
           have ho1 := or_form t.us k HK63.out HTO.out.us
           go_simp
           exact ⟨Below.refl _ _, rfl⟩
          ·refine relOb_mk (o := ⟨some 46, _, _, _, _, _⟩) rfl (fun r V hc hf hg hs hb hd => ?_)
           have x5 : r (.tmp 5) = .pointer (some ⟨g5, 0, none⟩) := hs 5 (by kernel_rfl)
           clear hs hd hg
           go_simp
           exact ⟨Below.refl _ _, rfl⟩
         ·intro a V hb hx
          have h0 : a.eval (.tmp 41) = .pointer (some ⟨g5, 1, none⟩) := hx 0 41 rfl rfl
          have h1 : a.eval (.tmp 42) = .int .u64 (t.us : Int) := hx 1 42 rfl rfl
          have h2 : a.eval (.tmp 43) = .int .i64 (k : Int) := hx 2 43 rfl rfl
          have h3 : a.eval (.tmp 44) = .int .u64 (pw k : Int) := hx 3 44 rfl rfl
          have h4 : a.eval (.tmp 45) = .int .u64 ((withBit t.us k : Nat) : Int) := hx 4 45 rfl rfl
          have h5 : a.eval (.tmp 46) = .pointer (some ⟨g5, 1, none⟩) := hx 5 46 rfl rfl
          unfold fillAll
          simp only [List.foldl_cons, List.foldl_nil, h0, h1, h2, h3, h4, h5, Act.put, List.setIfInBounds_toArray, List.set_cons_zero, List.set_cons_succ]
          clear h0 h1 h2 h3 h4 h5 hx
          have HOV := Lib.hid (blk_keep hb HOa.out)
          have HXV := Lib.hid (HXa.out.trans (WX.of_below hb))
          clear hb HOa HXa
          refine wpAny_ready (rs := [6]) (by kernel_rfl) (by simp) (AllReady.cons (o := ⟨none, _, _, _, _, _⟩) rfl (fun K hK => ?_) AllReady.nil)
          have c0 := blk_cell HOV.out 1 _ (st_1 _)
          have f0 := blk_free HOV.out 1
          have hl := blk_lt HOV.out
          go_simp
          clear c0 f0 hl
          refine name_K ?_
          intro Vb hVb
          have ho : Only g5 V Vb := by rw [hVb]; exact (Only.refl g5 V).setCell rfl _
          have HOb : Hid (Vb.heap[g5]? = some (.cells (stL ({ t with lk := withBit t.lk k, us := withBit t.us k } : St)).toArray 66)) := Lib.hid (by rw [hVb]; exact (blk_set HOV.out 1 _).trans (congrArg (fun C => some (Obj.cells C 66)) (st_s1 _ _)))
          have HXb := Lib.hid (HXV.out.trans (WX.of_only (X := fun b => b = g5) ho rfl))
          clear hVb ho HOV HXV
          refine hK _ _ ?_
          clear hK K
          refine wpAny_done (by kernel_rfl) ?_ _
          have y2 := blk_cell (HXb.out.keep HG.out.1 HQ3.out) 2 _ (st_2 s)
          go_wp2_with fail
          refine (HIC.out _).mono ?_
          rintro e w' ⟨rfl, rfl⟩
          clear y2
          cases bc with
          | false =>
            go_wp2_with fail
            go_roundg (N1 - (k + 1))
            case rel => exact ⟨k + 1, k_next HK.out HLT.out, by go_num, by rw [tidy_yes _ HBL.out, HT.out, HBU.out, HBC.out]; exact HOb.out, HXb.out⟩
            case measure => exact k_less HK.out HLT.out
          | true =>
            go_upto_region 13 with fail
            refine wp_region_rel (by kernel_rfl) [6] 9 [0, 1, 2, 3, 4, 5] [51, 52, 53, 54, 55, 56] #[true, true, true, true, true, true, false] 1 [(fun v _ => v = .pointer (some ⟨g5, 2, none⟩)), (fun v _ => v = .int .u64 (t.ca : Int)), (fun v _ => v = .int .i64 (k : Int)), (fun v _ => v = .int .u64 (pw k : Int)), (fun v _ => v = .int .u64 ((withBit t.ca k : Nat) : Int)), (fun v _ => v = .pointer (some ⟨g5, 2, none⟩)), (fun _ _ => True)] (by kernel_rfl) (by kernel_rfl) (by kernel_rfl) (by kernel_rfl) (by kernel_rfl) rfl (by kernel_rfl) rfl ?_ ?_ ?_
            ·exact ⟨stays_is _, stays_is _, stays_is _, stays_is _, stays_is _, stays_is _, stays_true, trivial⟩
            ·refine ⟨?_, ?_, ?_, ?_, ?_, ?_, trivial⟩
             ·refine relOb_mk (o := ⟨some 51, _, _, _, _, _⟩) rfl (fun r V hc hf hg hs hb hd => ?_)
              have x5 : r (.tmp 5) = .pointer (some ⟨g5, 0, none⟩) := hs 5 (by kernel_rfl)
              clear hs hd hg
              go_simp
              exact ⟨Below.refl _ _, rfl⟩
             ·refine relOb_mk (o := ⟨some 52, _, _, _, _, _⟩) rfl (fun r V hc hf hg hs hb hd => ?_)
              have h0 : r (.tmp 51) = .pointer (some ⟨g5, 2, none⟩) := hd 0 51 rfl (by kernel_rfl)
              clear hs hd hg
              have l := blk_cell (blk_keep hb HOb.out) 2 _ (st_2 _)
              go_simp
              exact ⟨Below.refl _ _, rfl⟩
             ·refine relOb_mk (o := ⟨some 53, _, _, _, _, _⟩) rfl (fun r V hc hf hg hs hb hd => ?_)
              have x6 : r (.tmp 6) = .int .i64 (k : Int) := hs 6 (by kernel_rfl)
              clear hs hd hg
              go_simp
              exact ⟨Below.refl _ _, rfl⟩
             ·refine relOb_mk (o := ⟨some 54, _, _, _, _, _⟩) rfl (fun r V hc hf hg hs hb hd => ?_)
              have h2 : r (.tmp 53) = .int .i64 (k : Int) := hd 2 53 rfl (by kernel_rfl)
              clear hs hd hg
              have h63 := HN63.out
              have h0 : (0 : Int) ≤ k := by omega
              have h1 : min k 64 = k := by omega
              have h2 : ¬ (64 : Int) ≤ k := by omega
              have hs1 := one_form k h63
              go_simp
              exact ⟨Below.refl _ _, by simp⟩
             ·refine relOb_mk (o := ⟨some 55, _, _, _, _, _⟩) rfl (fun r V hc hf hg hs hb hd => ?_)
              have h1 : r (.tmp 52) = .int .u64 (t.ca : Int) := hd 1 52 rfl (by kernel_rfl)
              have h3 : r (.tmp 54) = .int .u64 (pw k : Int) := hd 3 54 rfl (by kernel_rfl)
              clear hs hd hg
              have ho1 := or_form t.ca k HK63.out HTO.out.ca
              go_simp
              exact ⟨Below.refl _ _, rfl⟩
             ·refine relOb_mk (o := ⟨some 56, _, _, _, _, _⟩) rfl (fun r V hc hf hg hs hb hd => ?_)
              have x5 : r (.tmp 5) = .pointer (some ⟨g5, 0, none⟩) := hs 5 (by kernel_rfl)
              clear hs hd hg
              go_simp
              exact ⟨Below.refl _ _, rfl⟩
            ·intro a V hb hx
             have h0 : a.eval (.tmp 51) = .pointer (some ⟨g5, 2, none⟩) := hx 0 51 rfl rfl
             have h1 : a.eval (.tmp 52) = .int .u64 (t.ca : Int) := hx 1 52 rfl rfl
             have h2 : a.eval (.tmp 53) = .int .i64 (k : Int) := hx 2 53 rfl rfl
             have h3 : a.eval (.tmp 54) = .int .u64 (pw k : Int) := hx 3 54 rfl rfl
             have h4 : a.eval (.tmp 55) = .int .u64 ((withBit t.ca k : Nat) : Int) := hx 4 55 rfl rfl
             have h5 : a.eval (.tmp 56) = .pointer (some ⟨g5, 2, none⟩) := hx 5 56 rfl rfl
             unfold fillAll
             simp only [List.foldl_cons, List.foldl_nil, h0, h1, h2, h3, h4, h5, Act.put, List.setIfInBounds_toArray, List.set_cons_zero, List.set_cons_succ]
             clear h0 h1 h2 h3 h4 h5 hx
             have HOV := Lib.hid (blk_keep hb HOb.out)
             have HXV := Lib.hid (HXb.out.trans (WX.of_below hb))
             clear hb HOb HXb
             refine wpAny_ready (rs := [6]) (by kernel_rfl) (by simp) (AllReady.cons (o := ⟨none, _, _, _, _, _⟩) rfl (fun K hK => ?_) AllReady.nil)
             have c0 := blk_cell HOV.out 2 _ (st_2 _)
             have f0 := blk_free HOV.out 2
             have hl := blk_lt HOV.out
             go_simp
             clear c0 f0 hl
             refine name_K ?_
             intro Vc hVc
             have ho : Only g5 V Vc := by rw [hVc]; exact (Only.refl g5 V).setCell rfl _
             have HOc : Hid (Vc.heap[g5]? = some (.cells (stL ({ t with lk := withBit t.lk k, us := withBit t.us k, ca := withBit t.ca k } : St)).toArray 66)) := Lib.hid (by rw [hVc]; exact (blk_set HOV.out 2 _).trans (congrArg (fun C => some (Obj.cells C 66)) (st_s2 _ _)))
             have HXc := Lib.hid (HXV.out.trans (WX.of_only (X := fun b => b = g5) ho rfl))
             clear hVc ho HOV HXV
             refine hK _ _ ?_
             clear hK K
             refine wpAny_done (by kernel_rfl) ?_ _
             have y3 := blk_cell (HXc.out.keep HG.out.1 HQ3.out) (3 + k) _ (HTK.out)
             have c3 := blk_cell HOc.out (3 + k) _ (st_tm9 _ HK64.out)
             have f3 := blk_free HOc.out (3 + k)
             have hl3 := blk_lt HOc.out
             have d5 : (0 : Int) ≤ k := by omega
             have d6 : (k : Int) < 64 := by have := HK64.out; omega
             go_upto_region 15 with fail
             refine name_any ?_
             intro WZ hWZ
             clear y3 c3 f3 hl3 d5 d6
             have e20 : ((min tk 20 : Nat) : Int) = min (tk : Int) 20 := by omega
             rw [← e20] at hWZ
             have ho : Only g5 Vc WZ := by rw [hWZ]; exact (Only.refl g5 Vc).setCell rfl _
             have HOE : Hid (WZ.heap[g5]? = some (.cells (stL ({ t with lk := withBit t.lk k, us := withBit t.us k, ca := withBit t.ca k, tm := upd t.tm k (min tk 20) } : St)).toArray 66)) := Lib.hid (by rw [hWZ]; exact (blk_set HOc.out (3 + k) _).trans (congrArg (fun C => some (Obj.cells C 66)) (st_stm _ (min tk 20) HK64.out)))
             have HXE := Lib.hid (HXc.out.trans (WX.of_only (X := fun b => b = g5) ho rfl))
             clear hWZ ho HOc HXc e20
             go_wp2_with fail
             go_roundg (N1 - (k + 1))
             case rel => exact ⟨k + 1, k_next HK.out HLT.out, by go_num, by rw [tidy_yes _ HBL.out, HT.out, HBU.out, HBC.out, HTMK.out]; exact HOE.out, HXE.out⟩
             case measure => exact k_less HK.out HLT.out
   ·have d2 : ¬ (k : Int) < N1 := by omega
    have hkn : k = N1 := by have := HK.out; omega
    have HOF : Hid (wr.heap[g5]? = some (.cells (stL (tidyS N1 P s)).toArray 66)) := Lib.hid (hkn ▸ HOQ.out)
    have HR4 := Lib.hid (HXR.out.keep HG.out.2.1 HQ4.out)
    have HBE : Hid (Below w.heap.size w wr) := Lib.hid (HXR.out.below HBW.out (fun b h => by rw [h]; exact HG.out.2.2.1))
    clear hlt hkn
    have HLD := Lib.hid (load_st HOF.out)
    obtain ⟨hst, hq9, ho9⟩ := store_st (s' := (tidyS N1 P s)) HR4.out
    have HST := Lib.hid hst
    have HQ9 := Lib.hid hq9
    have HB9 : Hid (Below w.heap.size w (wr.setCells g4 0 (stL (tidyS N1 P s)))) := Lib.hid (Only.below HBE.out HG.out.2.2.2 HBE.out.size ho9)
    clear hst hq9 ho9
    go_wp2_with (first
     | (refine wpList_load_is (op := ⟨some 66, _, _, _, _, _⟩) rfl 66 _ rfl _ _ rfl HLD.out ?_)
     | (refine wpList_store_is (op := ⟨none, .store 66 _ _, _, _, _, _⟩) rfl 66 _ _ rfl _ _ rfl rfl _ HST.out ?_))
    (try simp only [Exit.inBlock, Exit.then])
    refine bodyPost_ret (results_cell_row (g := g4) rfl _ _ 66 (stL (tidyS N1 P s)).toArray (0, 0) _ rfl HQ9.out Try.underlying66 rfl (by rw [List.size_toArray, st_len]; exact info_st)) rfl ?_
    exact ⟨rfl, HB9.out⟩
end Go.Proofs.Ytpohoannggdbjaa
