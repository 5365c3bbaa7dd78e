/-
  Walks of chapter 14: a step; what settles.
-/
import Derived.Test.YtncijclhfndniaaDiskA
import Derived.Deep.WholeRow
import Derived.StillTailTactics
namespace Go.Proofs.Ytncijclhfndniaa
open Go.RowKit
attribute [local irreducible] byteVals wrVs wrV BlAt okB zeros puts
theorem name_callsB {P : Program} {f : Nat} {args : Array Value} {Q : Ending → World → Prop} {w : World} (h : ∀ W, W = w → Calls P f args W Q) : Calls P f args w Q := h w rfl
theorem ArAt.blk {w : World} {X : Nat → Prop} {ap : Option Addr} {n : Int} (h : ArAt w X ap (some n)) : ∃ ka, ap = some ⟨ka, 0, none⟩ ∧ X ka ∧ w.heap[ka]? = some (.cells #[.int .i64 n] 3 (0, 0)) := h
theorem DkAt.dec {w : World} {X : Nat → Prop} {g : Nat} {s : Dk} {ad : Option Addr} {cb : Nat} {v : Value} {ka : Nat} (h : DkAt w X g s ad cb v (some ⟨ka, 0, none⟩)) {n m : Int} (hk : w.heap[ka]? = some (.cells #[.int .i64 n] 3 (0, 0))) (hm : 0 ≤ m ∧ m ≤ 9223372036854775807) (ha : s.ar = some n) :
    DkAt (w.setCell ⟨ka, 0, none⟩ (.int .i64 m)) X g { s with ar := some m } ad cb v (some ⟨ka, 0, none⟩) := by
  have ho : Only ka w (w.setCell ⟨ka, 0, none⟩ (.int .i64 m)) := (Only.refl ka w).setCell (p := ⟨ka, 0, none⟩) rfl _
  have hne : ∀ (k : Nat) (C : Array Value) (t : TypeId), w.heap[k]? = some (.cells C t (0, 0)) → t ≠ 3 → (w.setCell ⟨ka, 0, none⟩ (.int .i64 m)).heap[k]? = w.heap[k]? := fun k C t hk2 ht => ho.block k (blk_lt hk2) (ne_type hk2 hk ht)
  refine ⟨(hne _ _ _ h.hd (by decide)).trans h.hd, h.xg, fun k hx => Nat.lt_of_lt_of_le (h.lt k hx) ho.size, ⟨h.ok.blk, h.ok.opn, h.ok.n, fun k hk => by cases hk; exact hm⟩, ?_, ?_, h.ox, h.nil, ?_⟩
  · refine h.bl.imp id ?_
    rintro ⟨kb, e, hx, hbl⟩
    have hbl2 := hbl
    unfold BlAt at hbl2
    obtain ⟨⟨C, hC⟩, _⟩ := hbl2
    exact ⟨kb, e, hx, hbl.keep (hne kb C _ hC (by decide))⟩
  · refine own_keep h.op (fun q hq => ?_)
    rcases h.op.2 with ⟨e, _⟩ | ⟨g', cap, cur, e, _, hc, _⟩
    · rw [e] at hq; cases hq
    · rw [e] at hq; cases hq
      exact hne _ _ _ hc (by decide)
  · have := h.arm
    rw [ha] at this
    obtain ⟨ka', e, hx, _⟩ := this.blk
    cases e
    exact ⟨ka, rfl, hx, blk_set hk 0 _⟩
theorem DkAt.steps {w : World} {X : Nat → Prop} {g : Nat} {s : Dk} {ad : Option Addr} {cb : Nat} {v : Value} {ap : Option Addr} (h : DkAt w X g s ad cb v ap) (t : Int) : DkAt (w.setCell ⟨g, 2, none⟩ (.int .i64 t)) X g { s with st := t } ad cb v ap ∧ Only g w (w.setCell ⟨g, 2, none⟩ (.int .i64 t)) := by
  have ho : Only g w (w.setCell ⟨g, 2, none⟩ (.int .i64 t)) := (Only.refl g w).setCell (p := ⟨g, 2, none⟩) rfl _
  exact ⟨h.store (s' := { s with st := t }) ho (blk_set h.hd 2 _) rfl rfl h.ok.arm (fun k h => h) (fun k hk => Nat.lt_of_lt_of_le (h.lt k hk) ho.size) (h.arm.only ho h.hd (by decide)), ho⟩
theorem DkAt.power {w : World} {X : Nat → Prop} {g : Nat} {s : Dk} {ad : Option Addr} {cb : Nat} {v : Value} {ap : Option Addr} (h : DkAt w X g s ad cb v ap) : DkAt ((w.setCell ⟨g, 3, none⟩ (.pointer none)).setCell ⟨g, 4, none⟩ (.bool true)) X g { s with ar := none, off := true } ad cb v none ∧ Only g w ((w.setCell ⟨g, 3, none⟩ (.pointer none)).setCell ⟨g, 4, none⟩ (.bool true)) := by
  have ho : Only g w ((w.setCell ⟨g, 3, none⟩ (.pointer none)).setCell ⟨g, 4, none⟩ (.bool true)) := ((Only.refl g w).setCell (p := ⟨g, 3, none⟩) rfl _).setCell (p := ⟨g, 4, none⟩) rfl _
  exact ⟨h.store (s' := { s with ar := none, off := true }) ho (blk_set (blk_set h.hd 3 _) 4 _) rfl rfl (fun n h => by cases h) (fun k h => h) (fun k hk => Nat.lt_of_lt_of_le (h.lt k hk) ho.size) rfl, ho⟩

theorem own_wr {w : World} {X : Nat → Prop} {g : Nat} {s : Dk} {ad : Option Addr} {cb : Nat} {v : Value} {ap : Option Addr} (h : DkAt w X g s ad cb v ap) :
    ∃ a cap, v = .slice a s.op.length cap ∧ ∀ i p, s.op[i]? = some p → ∃ q, a = some ⟨q, 0, none⟩ ∧ X q ∧ w.rangeAt q (i * 257) (wrV p) ∧ ∃ C, w.heap[q]? = some (.cells C 60 (0, 0)) := by
  rcases h.op.2 with ⟨e, h0⟩ | ⟨q, cap, cur, e, hg, hheap, hncap, hcm, hsz, htake⟩
  · exact ⟨none, 0, by rw [e, h0], fun i p hp => by rw [List.eq_nil_of_length_eq_zero h0] at hp; simp at hp⟩
  · refine ⟨some ⟨q, 0, none⟩, cap, e, fun i p hp => ⟨q, rfl, h.ox q (by rw [e]; rfl), fun j u hu => ?_, cur, hheap⟩⟩
    have hil : i < s.op.length := (List.getElem?_eq_some_iff.1 hp).1
    have hokp : ∀ p ∈ s.op, okB p.2 := fun p hp => (h.ok.opn p hp).2
    have hj : j < 257 := by
      have h1 := (List.getElem?_eq_some_iff.1 hu).1
      rw [wrV_length (hokp p (List.mem_of_getElem? hp))] at h1
      exact h1
    have h2 := wrVs_at s.op hokp i p hp j hj
    rw [hu, ← htake, List.getElem?_take, if_pos (by have : (i + 1) * 257 ≤ s.op.length * 257 := Nat.mul_le_mul_right _ hil; omega), Array.getElem?_toList] at h2
    exact blk_cell hheap _ _ h2
theorem puts_append (bl : List (List Nat)) (l : List (Nat × List Nat)) (p : Nat × List Nat) : puts bl (l ++ [p]) = (puts bl l).set p.1 p.2 := by
  induction l generalizing bl with
  | nil => simp [puts]
  | cons q l ih => simp only [List.cons_append, puts]; exact ih _
theorem puts_length (bl : List (List Nat)) (l : List (Nat × List Nat)) : (puts bl l).length = bl.length := by
  induction l generalizing bl with
  | nil => simp [puts]
  | cons q l ih => simp only [puts]; rw [ih]; simp
theorem puts_nil (bl : List (List Nat)) : puts bl [] = bl := by simp [puts]
theorem take_succ_some {α : Type} (l : List α) (k : Nat) (p : α) (h : l[k]? = some p) : l.take (k + 1) = l.take k ++ [p] := by
  rw [List.take_add_one, h]; rfl
/-- an open write's variable: a new block -/
theorem info_w2 : (Try.prog.info? 60).map (·.size) = some 257 := by kernel_rfl
theorem info_b2 : (Try.prog.info? 58).map (·.size) = some 256 := by kernel_rfl
theorem load_wr (w : World) (b o : Nat) (p : Nat × List Nat) (hp : okB p.2) (hr : w.rangeAt b o (wrV p)) : (Instr.loadAt 60 (.pointer (some ⟨b, o, none⟩))).run Try.prog w = .ok (.agg (wrV p).toArray) w :=
  run_loadAt_mid w b o 60 (wrV p) _ hr Try.underlying60 rfl (by rw [wrV_length hp]; exact info_w2)
theorem load_bl (w : World) (b o : Nat) (l : List Nat) (hp : okB l) (hr : w.rangeAt b o (byteVals l)) : (Instr.loadAt 58 (.pointer (some ⟨b, o, none⟩))).run Try.prog w = .ok (.agg (byteVals l).toArray) w := by
  refine run_loadAt_mid w b o 58 (byteVals l) _ hr Try.underlying58 rfl ?_
  rw [byteVals_length]; unfold okB at hp; rw [hp.1]; exact info_b2
theorem store_bl (w : World) (b o : Nat) (l : List Nat) (hp : okB l) (ht : w.there b o 256) : (Instr.storeAt 58 (.pointer (some ⟨b, o, none⟩)) (.agg (byteVals l).toArray)).run Try.prog w = .ok () (w.setCells b o (byteVals l)) := by
  have hs : (byteVals l).toArray.size = 256 := by rw [List.size_toArray, byteVals_length]; unfold okB at hp; exact hp.1
  exact run_storeAt_mid w b o 58 (byteVals l).toArray (by rw [hs]; exact ht) (by rw [hs]; exact info_b2) (all_oneCell_toArray (byteVals_one l))
theorem zero_set (Z : Array Value) (hZ : Z = #[.int .i64 0] ++ Array.replicate 256 (.int .u8 0)) (m : Nat) : Z.setIfInBounds 0 (.int .i64 (m : Int)) = (wrV (m, zeros)).toArray := by
  have h1 : byteVals zeros = List.replicate 256 (.int .u8 0) := by unfold byteVals zeros; rw [List.map_replicate]; rfl
  apply Array.ext'
  rw [hZ, Array.toList_setIfInBounds, Array.toList_append, Array.toList_replicate]
  unfold wrV
  rw [h1]
  rfl
theorem zero_wr : ∃ Z : Array Value, Z.size = 257 ∧ (∀ w, (zeroValue 60).run Try.prog w = .ok (.agg Z) w) ∧ ∀ m : Nat, Z.setIfInBounds 0 (.int .i64 (m : Int)) = (wrV (m, zeros)).toArray := by
  have h := (zero_of_info (P := Try.prog) (t := 60) (v := .agg (#[.int .i64 0] ++ Array.replicate 256 (.int .u8 0))) (n := 257) (by kernel_rfl)).1
  have h2 : (#[Value.int .i64 0] ++ Array.replicate 256 (Value.int .u8 0)).size = 257 := by simp only [Array.size_append, Array.size_replicate, List.size_toArray, List.length_cons, List.length_nil]
  generalize hZ : #[Value.int .i64 0] ++ Array.replicate 256 (Value.int .u8 0) = Z at h h2
  exact ⟨Z, h2, h, zero_set Z hZ.symm⟩
theorem store_new (w : World) (p : Nat × List Nat) (hp : okB p.2) (Z : Array Value) (hZ : Z.size = 257) : (Instr.storeAt 60 (.pointer (some ⟨w.heap.size, 0, none⟩)) (.agg (wrV p).toArray)).run Try.prog (w.alloc (.cells Z 60)) = .ok () (w.alloc (.cells (wrV p).toArray 60)) := by
  have hs : (wrV p).toArray.size = 257 := by rw [List.size_toArray, wrV_length hp]
  exact run_storeAt_new w 60 Z (wrV p).toArray (by rw [hs]; exact info_w2) (by rw [hZ, hs]) (all_oneCell_toArray (wrV_one p))
theorem range_new {w : World} {k : Nat} {l : List Value} {t : TypeId} {fr : Nat × Nat} (h : w.heap[k]? = some (.cells l.toArray t fr)) (o : Nat) : w.rangeAt k o (l.drop o) := by
  intro j v hv
  rw [List.getElem?_drop] at hv
  simp [World.cell?, h, hv]
theorem byteVals_at (l : List Nat) (j : Nat) (hj : j < l.length) : (byteVals l)[j]? = some (.int .u8 ((l.getD j 0 : Nat) : Int)) := byteVals_get l j hj
theorem range_part {w : World} {kb o : Nat} {old l nb : List Nat} (hr : w.rangeAt kb o (byteVals old)) (ho : old.length = 256) (hn : nb.length = 256) (hl : l.length ≤ 256) (h1 : ∀ j, j < l.length → nb.getD j 0 = l.getD j 0) (h2 : ∀ j, l.length ≤ j → j < 256 → nb.getD j 0 = old.getD j 0) :
    (w.setCells kb o (byteVals l)).rangeAt kb o (byteVals nb) := by
  intro j v hv
  have hj : j < 256 := by
    have := (List.getElem?_eq_some_iff.1 hv).1
    rw [byteVals_length, hn] at this
    exact this
  rw [byteVals_at nb j (by omega)] at hv
  have hlen : (byteVals l).length = l.length := byteVals_length l
  by_cases hjl : j < l.length
  · rw [h1 j hjl] at hv
    rw [← byteVals_at l j hjl] at hv
    have h3 := World.cell?_setCells_in kb (byteVals l) o w (fun i hi => hr.isSome i (by rw [byteVals_length]; omega)) j (by omega)
    rw [h3, ← hv, List.getElem?_eq_getElem]
  · rw [h2 j (by omega) hj, ← byteVals_at old j (by omega)] at hv
    rw [World.cell?_setCells_out kb (byteVals l) o w ⟨kb, o + j, none⟩ (fun _ _ => .inr (by show o + (byteVals l).length ≤ o + j; omega))]
    exact hr j v hv
theorem DkAt.put {w : World} {X : Nat → Prop} {g : Nat} {s : Dk} {kb : Nat} {cb : Nat} {v : Value} {ap : Option Addr} (h : DkAt w X g s (some ⟨kb, 0, none⟩) cb v ap) {i : Nat} {old l nb : List Nat} (hi : s.bl[i]? = some old) (hnb : okB nb) (hl : l.length ≤ 256)
    (h1 : ∀ j, j < l.length → nb.getD j 0 = l.getD j 0) (h2 : ∀ j, l.length ≤ j → j < 256 → nb.getD j 0 = old.getD j 0) :
    DkAt (w.setCells kb (i * 256) (byteVals l)) X g { s with bl := s.bl.set i nb } (some ⟨kb, 0, none⟩) cb v ap ∧ Only kb w (w.setCells kb (i * 256) (byteVals l)) ∧ X kb := by
  have hil : i < s.bl.length := (List.getElem?_eq_some_iff.1 hi).1
  obtain ⟨kb', ea, hx, hbl⟩ := h.bl.resolve_left (by intro e; rw [e] at hil; simp at hil)
  cases ea
  unfold BlAt at hbl
  obtain ⟨⟨C, hC⟩, hbl⟩ := hbl
  have ho := only_setCells (g := kb) (byteVals l) (i * 256) w
  have hok : okB old := h.ok.blk old (List.mem_of_getElem? hi)
  have hold : old.length = 256 := by unfold okB at hok; exact hok.1
  have hnl : nb.length = 256 := by unfold okB at hnb; exact hnb.1
  have hne : ∀ (k : Nat) (C' : Array Value) (t : TypeId), w.heap[k]? = some (.cells C' t (0, 0)) → t ≠ 58 → (w.setCells kb (i * 256) (byteVals l)).heap[k]? = w.heap[k]? := fun k C' t hk ht => ho.block k (blk_lt hk) (ne_type hk hC ht)
  refine ⟨⟨by show _ = some (Obj.cells #[.slice _ (s.bl.set i nb).length cb, v, _, _, _] _ _); rw [hne _ _ _ h.hd (by decide), h.hd, List.length_set], h.xg, fun k hk => Nat.lt_of_lt_of_le (h.lt k hk) ho.size, ?_, .inr ⟨kb, rfl, hx, ?_⟩, ?_, h.ox, h.nil, ?_⟩, ho, hx⟩
  · refine ⟨fun b hb => ?_, fun p hp => by show p.1 < (s.bl.set i nb).length ∧ _; rw [List.length_set]; exact h.ok.opn p hp, by show (s.bl.set i nb).length ≤ _; rw [List.length_set]; exact h.ok.n, h.ok.arm⟩
    rcases List.mem_or_eq_of_mem_set hb with hb | rfl
    · exact h.ok.blk b hb
    · exact hnb
  · unfold BlAt
    obtain ⟨C2, hC2, _⟩ := blk_setCells (byteVals l) (i * 256) w C hC
    refine ⟨⟨C2, hC2⟩, fun j b hb => ?_⟩
    by_cases e : i = j
    · subst e
      have hb2 : b = nb := by
        have : (s.bl.set i nb)[i]? = some b := hb
        rw [List.getElem?_set_self hil] at this
        exact (Option.some.inj this).symm
      subst hb2
      exact range_part (hbl i old hi) hold hnl hl h1 h2
    · have hb2 : s.bl[j]? = some b := by
        have : (s.bl.set i nb)[j]? = some b := hb
        rw [List.getElem?_set_ne e] at this
        exact this
      have hbl2 : b.length = 256 := by
        have := h.ok.blk b (List.mem_of_getElem? hb2)
        unfold okB at this; exact this.1
      refine World.rangeAt_setCells_apart (hbl j b hb2) _ _ _ (.inr ?_)
      rw [byteVals_length, byteVals_length, hbl2]
      rcases Nat.lt_or_gt_of_ne e with e | e
      · right
        have : (i + 1) * 256 ≤ j * 256 := Nat.mul_le_mul_right _ e
        omega
      · left
        have : (j + 1) * 256 ≤ i * 256 := Nat.mul_le_mul_right _ e
        omega
  · refine own_keep h.op (fun q hq => ?_)
    rcases h.op.2 with ⟨e, _⟩ | ⟨g', cap, cur, e, _, hc, _⟩
    · rw [e] at hq; cases hq
    · rw [e] at hq; cases hq
      exact hne _ _ _ hc (by decide)
  · exact h.arm.only ho hC (by decide)
theorem ArAt.keep' {w w' : World} {X X' : Nat → Prop} {ap : Option Addr} {r : Option Int} (h : ArAt w X ap r) (hX : ∀ k, X k → X' k) (hk : ∀ (k : Nat) (C : Array Value), w.heap[k]? = some (.cells C 3 (0, 0)) → w'.heap[k]? = w.heap[k]?) : ArAt w' X' ap r := by
  cases r with
  | none => exact h
  | some n =>
    obtain ⟨ka, e, hx, hc⟩ := h.blk
    exact ⟨ka, e, hX ka hx, by rw [hk ka _ hc, hc]⟩
theorem DkAt.opened {w : World} {X : Nat → Prop} {g : Nat} {s : Dk} {ad : Option Addr} {cb : Nat} {v : Value} {ap : Option Addr} (h : DkAt w X g s ad cb v ap) {w' : World}
    (hk : ∀ (k : Nat) (C : Array Value) (t : TypeId), w.heap[k]? = some (.cells C t (0, 0)) → t ≠ 60 → t ≠ 54 → w'.heap[k]? = w.heap[k]?) {v' : Value} {op' : List (Nat × List Nat)}
    (hhd : w'.heap[g]? = some (.cells #[.slice ad s.bl.length cb, v', .int .i64 s.st, .pointer ap, .bool s.off] 54 (0, 0))) (hok : ∀ p ∈ op', p.1 < s.bl.length ∧ okB p.2) {X' : Nat → Prop} (hX : ∀ k, X k → X' k) (hlt : ∀ k, X' k → k < w'.heap.size)
    (hop : w'.ownsRow 0 60 257 v' op'.length (wrVs op')) (hox : ∀ q, v'.ownBlock = some q → X' q) (hnil : op' = [] → v' = .slice none 0 0) : DkAt w' X' g { s with op := op' } ad cb v' ap := by
  refine ⟨hhd, hX g h.xg, hlt, ⟨h.ok.blk, hok, h.ok.n, h.ok.arm⟩, h.bl.imp id ?_, hop, hox, hnil, ?_⟩
  · rintro ⟨kb, e, hx, hbl⟩
    have hbl2 := hbl
    unfold BlAt at hbl2
    obtain ⟨⟨C, hC⟩, _⟩ := hbl2
    exact ⟨kb, e, hX kb hx, hbl.keep (hk kb C _ hC (by decide) (by decide))⟩
  · exact h.arm.keep' hX (fun k C hc => hk k C _ hc (by decide) (by decide))
theorem DkAt.clear {w : World} {X : Nat → Prop} {g : Nat} {s : Dk} {ad : Option Addr} {cb : Nat} {v : Value} {ap : Option Addr} (h : DkAt w X g s ad cb v ap) : DkAt (w.setCell ⟨g, 1, none⟩ (.slice none 0 0)) X g { s with op := [] } ad cb (.slice none 0 0) ap ∧ Only g w (w.setCell ⟨g, 1, none⟩ (.slice none 0 0)) := by
  have ho : Only g w (w.setCell ⟨g, 1, none⟩ (.slice none 0 0)) := (Only.refl g w).setCell (p := ⟨g, 1, none⟩) rfl _
  refine ⟨h.opened (fun k C t hk _ ht => ho.block k (blk_lt hk) (ne_type hk h.hd ht)) (blk_set h.hd 1 _) (fun p hp => by simp at hp) (fun k h => h) (fun k hk => Nat.lt_of_lt_of_le (h.lt k hk) ho.size) ?_ (fun q hq => by cases hq) (fun _ => rfl), ho⟩
  rw [wrVs_nil]
  exact World.ownsRow_nil _ _ _ _
theorem Bar.drew {Z : Nat → Prop} {a b : World} (h : Bar Z a b) : Bar Z a b.drew := ⟨h.os, h.tape, h.output, h.size, h.block⟩
theorem wpList_load_is {P : Program} {ops : Array Oper} {rest : List Oper} {op : Oper} {a : Act} {w : World} {Q : Exit → Act → World → Prop} (hgd : op.guard = none) (ty : TypeId) (x : Operand) (ho : op.op = .load ty x) (vx v : Value) (hx : a.eval x = vx)
    (hr : (Instr.loadAt ty vx).run P w = .ok v w) (h : wpList P ops Q rest (a.put op.dst v) w) : wpList P ops Q (op :: rest) a w :=
  wpList_plain hgd fun K hK => by
    unfold Oper.wp execOp
    simp only [ho, hx, Sem.run_bind, hr, Result.andThen_ok, Sem.run_pure]
    exact hK _ _ h
theorem wpList_store_is {P : Program} {ops : Array Oper} {rest : List Oper} {op : Oper} {a : Act} {w : World} {Q : Exit → Act → World → Prop} (hgd : op.guard = none) (ty : TypeId) (x y : Operand) (ho : op.op = .store ty x y) (vx vy : Value) (hx : a.eval x = vx) (hy : a.eval y = vy)
    (w' : World) (hr : (Instr.storeAt ty vx vy).run P w = .ok () w') (h : wpList P ops Q rest (a.put op.dst undef) w') : wpList P ops Q (op :: rest) a w :=
  wpList_plain hgd fun K hK => by
    unfold Oper.wp execOp
    simp only [ho, hx, hy, Sem.run_bind, hr, Result.andThen_ok, Sem.run_pure]
    exact hK _ _ h
theorem still_load_is {P : Program} {ops : Array Oper} {o : Oper} {a : Act} {w : World} {K : Act → Prop} {E : Prop} (hgd : o.guard = none) (ty : TypeId) (x : Operand) (ho : o.op = .load ty x) (vx v : Value) (hx : a.eval x = vx)
    (hr : (Instr.loadAt ty vx).run P w = .ok v w) (h : K (a.put o.dst v)) : if Region.wanted o (yielded ops a.tmps) = true then o.still P a w K else E := by
  have hw : Region.wanted o (yielded ops a.tmps) = true := by simp [Region.wanted, hgd]
  rw [if_pos hw]
  unfold Oper.still execOp
  simp only [ho, hx, Sem.run_bind, hr, Result.andThen_ok, Sem.run_pure]
  exact ⟨rfl, h⟩
set_option maxHeartbeats 2000000 in
theorem settle_any (s : Dk) (X : Nat → Prop) (g : Nat) (w : World) (h : DAt w X g s) : Calls Try.prog 26 #[.pointer (some ⟨g, 0, none⟩)] w fun e w' => e = .returned (.tuple #[]) ∧ DAt w' X g s.settle ∧ Bar X w w' := by
  obtain ⟨ad, cb, v, ap, h⟩ := h
  obtain ⟨a, cap, rfl, _⟩ := own_wr h
  have h1 := blk_cell h.hd 1 _ rfl
  obtain ⟨Z, hZ, hzero, _⟩ := zero_wr
  have h0 : DkAt w X g { s with bl := puts s.bl (s.op.take 0) } ad cb (.slice a s.op.length cap) ap := by rw [List.take_zero, puts_nil]; exact h
  have hmx : s.op.length ≤ maxLen := by
    rcases h.op.2 with ⟨e, h0⟩ | ⟨q, c2, cur, e, hg, hheap, hncap, hcm, hsz, htake⟩
    · rw [h0]; exact Nat.zero_le _
    · exact Nat.le_trans hncap hcm
  have hmx2 : (s.op.length : Int) ≤ 9223372036854775807 := by unfold maxLen at hmx; omega
  clear h
  have HZ := Lib.hid hZ
  clear hZ hmx
  obtain ⟨n, hn⟩ : ∃ n, n = s.op.length := ⟨_, rfl⟩
  rw [← hn] at h1 h0 hmx2
  have HN := Lib.hid hn
  clear hn
  go_enter Try.func26, Try.ntmps26
  go_wp2_with fail
  clear h1
  go_loopw [9] (fun i wr => ∃ k : Nat, k ≤ n ∧ i = .int .i64 k ∧ DkAt wr X g { s with bl := puts s.bl (s.op.take k) } ad cb (.slice a n cap) ap ∧ Bar X w wr) (fun i _ => n - (intOf i).toNat)
  case atStart => exact ⟨0, by omega, rfl, h0, Bar.refl _ _⟩
  case round =>
    obtain ⟨k, hk, rfl, hD, hB⟩ := hrel
    clear h0
    by_cases hlt : k < n
    · obtain ⟨p, hp⟩ : ∃ p, s.op[k]? = some p := ⟨_, List.getElem?_eq_getElem (by have := HN.out; omega)⟩
      obtain ⟨a', cap', e1, HR⟩ := own_wr hD
      obtain ⟨q, ea, hxq, hq, C, hqC⟩ := HR k p hp
      have ea2 : a = a' := by cases e1; rfl
      subst ea2
      subst ea
      obtain ⟨hp1', hp2⟩ := hD.ok.opn p (List.mem_of_getElem? hp)
      have hlen : (puts s.bl (s.op.take k)).length = s.bl.length := puts_length _ _
      have hp1 : p.1 < s.bl.length := hlen ▸ hp1'
      clear hp1'
      have hl1 := load_wr wr q (k * 257) p hp2 hq
      have hs1 := store_new wr p hp2 Z HZ.out
      have d1 : (k : Int) < n := by omega
      have d2 : (0 : Int) ≤ k := by omega
      have HL := Lib.hid hl1
      have HS := Lib.hid hs1
      clear hl1 hs1
      go_wp2_with (first
        | (refine wpList_load_is (op := ⟨some 12, _, _, _, _, _⟩) rfl 60 _ rfl _ _ rfl HL.out ?_)
        | (refine wpList_store_is (op := ⟨none, .store 60 _ _, _, _, _, _⟩) rfl 60 _ _ rfl _ _ rfl rfl _ HS.out ?_))
      have hk9 : wr.heap.size = wr.heap.size := rfl
      refine name_world ?_
      intro W hW
      have km : W.heap[wr.heap.size]? = some (.cells (wrV p).toArray 60 (0, 0)) := by rw [hW]; exact heap_new1 _ _
      have hbW : Below wr.heap.size wr W := by rw [hW]; exact below1 _ _
      have hDW := hD.keep hbW.size (fun k hk => hbW.block k (hD.lt k hk))
      clear hW
      have hm0 : W.cell? ⟨wr.heap.size, 0, none⟩ = some (.int .i64 (p.1 : Int)) := range_new km 0 0 _ (by unfold wrV; rfl)
      have hm1 : W.rangeAt wr.heap.size 1 (byteVals p.2) := by have := range_new km 1; unfold wrV at this; exact this
      have hg0 := blk_cell hDW.hd 0 _ rfl
      obtain ⟨kb, ead, hxb, hbl⟩ := hDW.bl.resolve_left (by intro e; have := hp1; have e2 : (puts s.bl (s.op.take k)) = [] := e; rw [← hlen, e2] at this; simp at this)
      subst ead
      have hbl2 := hbl
      unfold BlAt at hbl2
      obtain ⟨⟨C2, hC2⟩, hbl3⟩ := hbl2
      obtain ⟨ob, hob⟩ : ∃ b, (puts s.bl (s.op.take k))[p.1]? = some b := ⟨_, List.getElem?_eq_getElem (by rw [hlen]; exact hp1)⟩
      have hobok : okB ob := hDW.ok.blk ob (List.mem_of_getElem? hob)
      have hth : W.there kb (p.1 * 256) 256 := by
        have := there_of_range hC2 (hbl3 p.1 ob hob)
        rw [byteVals_length] at this
        unfold okB at hobok
        rw [hobok.1] at this
        exact this
      have HL1 := Lib.hid (load_bl W.drew wr.heap.size 1 p.2 hp2 ((World.rangeAt_drew _ _ _ _).2 hm1))
      have HS1 := Lib.hid (store_bl W.drew kb (p.1 * 256) p.2 hp2 ((World.there_drew _ _ _ _).2 hth))
      have j1 : (p.1 : Int) < s.bl.length := by omega
      have j2 : (0 : Int) ≤ p.1 := by omega
      have HOB := Lib.hid hob
      clear hm1 hth hob hobok hbl hbl3 hq hqC
      refine wp_region_still_tail 9 (by kernel_rfl) (by kernel_rfl) ?_
      simp only [List.take_succ_cons, List.take_zero, List.drop_succ_cons, List.drop_zero]
      repeat
        (with_reducible apply wpStill_step
         intro K hK
         first
           | (refine still_load_is (o := ⟨some 20, _, _, _, _, _⟩) rfl 58 _ rfl _ _ rfl HL1.out ?_; refine hK _ ?_; clear hK K)
           | (go_simp; refine hK _ ?_; clear hK K))
      refine wpStill_nil ?_
      refine wpList_store_is (op := ⟨none, .store 58 _ _, _, _, _, _⟩) rfl 58 _ _ rfl _ _ rfl rfl _ HS1.out ?_
      refine name_worldL ?_
      intro W3 hW3
      have hpl : p.2.length = 256 := by unfold okB at hp2; exact hp2.1
      have hdw : DkAt W.drew X g { s with bl := puts s.bl (s.op.take k) } (some ⟨kb, 0, none⟩) cb (.slice (some ⟨q, 0, none⟩) s.op.length cap) ap := hDW.keep (Nat.le_refl _) (fun k _ => rfl)
      obtain ⟨hP1, hP2, hP3⟩ := hdw.put (i := p.1) (nb := p.2) (l := p.2) HOB.out hp2 (by omega) (fun j _ => rfl) (fun j h1 h2 => by omega)
      have hB3 := ((hB.trans (Bar.of_below hbW)).drew).only hP2 (fun _ => hP3)
      rw [← hW3] at hP1 hB3
      have hP4 : DkAt W3 X g { s with bl := puts s.bl (s.op.take (k + 1)) } (some ⟨kb, 0, none⟩) cb (.slice (some ⟨q, 0, none⟩) s.op.length cap) ap := by
        rw [take_succ_some _ _ _ hp, puts_append]; exact hP1
      clear hW3 hP1 hP2 hP3 hdw hDW hD hB km hm0 hg0 hC2 hpl
      go_wp2_with fail
      go_roundw
      case rel => exact ⟨k + 1, by omega, by go_num, hP4, hB3⟩
      case measure => simp [intOf]; omega
    · obtain rfl : k = n := by omega
      have hc := hD.clear
      have h1 := blk_cell hD.hd 1 _ rfl
      have hf := blk_free hD.hd
      have xg := hD.xg
      have HC := Lib.hid hc
      clear hc hD
      go_wp2_with fail
      go_end0
      have h9 := HC.out.1
      rw [HN.out, List.take_length] at h9
      exact ⟨rfl, ⟨ad, cb, .slice none 0 0, ap, h9⟩, hB.only HC.out.2 (fun _ => xg)⟩

theorem nop_any (w : World) : Calls Try.prog 28 #[] w fun e w' => e = .returned (.tuple #[]) ∧ w = w' := by
  go_enter Try.func28, Try.ntmps28
  go_wp2_with fail
  go_end0
  exact ⟨rfl, rfl⟩

set_option maxHeartbeats 2000000 in
theorem step_w (s : Dk) (X : Nat → Prop) (g : Nat) (w : World) (h : DAt w X g s) : Calls Try.prog 25 #[.pointer (some ⟨g, 0, none⟩), .func (.func 28) #[] #[]] w fun e w' => e = .returned (.int .i64 (if s.goes then 140 else 0)) ∧ DAt w' X g (s.count) ∧ Bar X w w' := by
  obtain ⟨ad, cb, v, ap, h⟩ := h
  have h2 := blk_cell h.hd 2 _ rfl
  have h3 := blk_cell h.hd 3 _ rfl
  have h4 := blk_cell h.hd 4 _ rfl
  have hf := blk_free h.hd
  have hg := blk_lt h.hd
  obtain ⟨H1, O1⟩ := h.steps (wrap64 (s.st + 1))
  have xg := h.xg
  cases ha : s.ar with
  | none =>
    have e : s.goes = false := by unfold Dk.goes; rw [ha]
    have e2 : s.count = { s with st := wrap64 (s.st + 1) } := by unfold Dk.count; rw [ha]
    have ea := h.arm
    rw [ha] at ea
    have ea2 : ap = none := ea
    subst ea2
    rw [e, e2]
    rw [ha] at H1
    have H := Lib.hid H1
    have O := Lib.hid O1
    clear h H1 O1 e e2 ea
    go_enter Try.func25, Try.ntmps25
    go_wp2_with fail
    refine (nop_any _).mono ?_
    rintro e w1 ⟨rfl, rfl⟩
    go_wp2_with fail
    go_ret
    exact ⟨rfl, ⟨_, _, _, _, H.out⟩, ((Bar.refl X w).only O.out (fun _ => xg))⟩
  | some n =>
    have ea := h.arm
    rw [ha] at ea
    obtain ⟨ka, rfl, hxk, hka⟩ := ea.blk
    have hn := h.ok.arm n ha
    have kg : ¬ ka = g := ne_type hka h.hd (by decide)
    have kg2 : ¬ g = ka := fun e => kg e.symm
    have hk0 := blk_cell hka 0 _ rfl
    have hkf := blk_free hka
    by_cases h0 : n ≤ 0
    · have e : s.goes = true := by unfold Dk.goes; rw [ha]; exact decide_eq_true h0
      have e2 : s.count = { s with st := wrap64 (s.st + 1), ar := none, off := true } := by unfold Dk.count; rw [ha]; simp only [if_pos h0]
      rw [e, e2]
      have d1 : decide (n > 0) = false := decide_eq_false (by omega)
      have d2 : decide (0 < n) = false := decide_eq_false (by omega)
      have H2 := H1.power
      have H := Lib.hid H2.1
      have O := Lib.hid (O1.trans H2.2)
      clear h H1 O1 H2 e e2 ea hka hn
      go_enter Try.func25, Try.ntmps25
      go_wp2_with fail
      go_ret
      exact ⟨rfl, ⟨_, _, _, _, H.out⟩, (Bar.refl X w).only O.out (fun _ => xg)⟩
    · have e : s.goes = false := by unfold Dk.goes; rw [ha]; exact decide_eq_false h0
      have e2 : s.count = { s with st := wrap64 (s.st + 1), ar := some (n - 1) } := by unfold Dk.count; rw [ha]; simp only [if_neg h0]
      rw [e, e2]
      have d1 : decide (n > 0) = true := decide_eq_true (by omega)
      have d2 : decide (0 < n) = true := decide_eq_true (by omega)
      have hw : wrap64 (n - 1) = n - 1 := by unfold wrap64; omega
      have H2 := H1.dec (n := n) (m := n - 1) (O1.keep kg hka) (by omega) ha
      have O2 : Bar X w ((w.setCell ⟨g, 2, none⟩ (.int .i64 (wrap64 (s.st + 1)))).setCell ⟨ka, 0, none⟩ (.int .i64 (n - 1))) := ((Bar.refl X w).only O1 (fun _ => xg)).only ((Only.refl ka _).setCell (p := ⟨ka, 0, none⟩) rfl _) (fun _ => hxk)
      have H := Lib.hid H2
      have O := Lib.hid O2
      clear h H1 O1 H2 O2 e e2 ea hka hn
      go_enter Try.func25, Try.ntmps25
      go_wp2_with fail
      refine (nop_any _).mono ?_
      rintro e w1 ⟨rfl, rfl⟩
      go_wp2_with fail
      go_ret
      exact ⟨rfl, ⟨_, _, _, _, H.out⟩, O.out⟩

set_option maxHeartbeats 2000000 in
theorem step_s (s : Dk) (X : Nat → Prop) (g : Nat) (w : World) (h : DAt w X g s) : Calls Try.prog 25 #[.pointer (some ⟨g, 0, none⟩), .func (.func 26) #[.pointer (some ⟨g, 0, none⟩)] #[]] w fun e w' => e = .returned (.int .i64 (if s.goes then 140 else 0)) ∧ DAt w' X g (if s.goes then s.count else s.count.settle) ∧ Bar X w w' := by
  obtain ⟨ad, cb, v, ap, h⟩ := h
  have h2 := blk_cell h.hd 2 _ rfl
  have h3 := blk_cell h.hd 3 _ rfl
  have h4 := blk_cell h.hd 4 _ rfl
  have hf := blk_free h.hd
  have hg := blk_lt h.hd
  obtain ⟨H1, O1⟩ := h.steps (wrap64 (s.st + 1))
  have xg := h.xg
  cases ha : s.ar with
  | none =>
    have e : s.goes = false := by unfold Dk.goes; rw [ha]
    have e2 : s.count = { s with st := wrap64 (s.st + 1) } := by unfold Dk.count; rw [ha]
    have ea := h.arm
    rw [ha] at ea
    have ea2 : ap = none := ea
    subst ea2
    rw [e, e2]
    rw [ha] at H1
    have H := Lib.hid H1
    have O := Lib.hid O1
    clear h H1 O1 e e2 ea
    go_enter Try.func25, Try.ntmps25
    go_wp2_with fail
    refine (settle_any _ X g _ ⟨_, _, _, _, H.out⟩).mono ?_
    rintro e w1 ⟨rfl, hd, hb⟩
    go_wp2_with fail
    go_ret
    exact ⟨rfl, hd, ((Bar.refl X w).only O.out (fun _ => xg)).trans hb⟩
  | some n =>
    have ea := h.arm
    rw [ha] at ea
    obtain ⟨ka, rfl, hxk, hka⟩ := ea.blk
    have hn := h.ok.arm n ha
    have kg : ¬ ka = g := ne_type hka h.hd (by decide)
    have kg2 : ¬ g = ka := fun e => kg e.symm
    have hk0 := blk_cell hka 0 _ rfl
    have hkf := blk_free hka
    by_cases h0 : n ≤ 0
    · have e : s.goes = true := by unfold Dk.goes; rw [ha]; exact decide_eq_true h0
      have e2 : s.count = { s with st := wrap64 (s.st + 1), ar := none, off := true } := by unfold Dk.count; rw [ha]; simp only [if_pos h0]
      rw [e, e2]
      have d1 : decide (n > 0) = false := decide_eq_false (by omega)
      have d2 : decide (0 < n) = false := decide_eq_false (by omega)
      have H2 := H1.power
      have H := Lib.hid H2.1
      have O := Lib.hid (O1.trans H2.2)
      clear h H1 O1 H2 e e2 ea hka hn
      go_enter Try.func25, Try.ntmps25
      go_wp2_with fail
      go_ret
      exact ⟨rfl, ⟨_, _, _, _, H.out⟩, (Bar.refl X w).only O.out (fun _ => xg)⟩
    · have e : s.goes = false := by unfold Dk.goes; rw [ha]; exact decide_eq_false h0
      have e2 : s.count = { s with st := wrap64 (s.st + 1), ar := some (n - 1) } := by unfold Dk.count; rw [ha]; simp only [if_neg h0]
      rw [e, e2]
      have d1 : decide (n > 0) = true := decide_eq_true (by omega)
      have d2 : decide (0 < n) = true := decide_eq_true (by omega)
      have hw : wrap64 (n - 1) = n - 1 := by unfold wrap64; omega
      have H2 := H1.dec (n := n) (m := n - 1) (O1.keep kg hka) (by omega) ha
      have O2 : Bar X w ((w.setCell ⟨g, 2, none⟩ (.int .i64 (wrap64 (s.st + 1)))).setCell ⟨ka, 0, none⟩ (.int .i64 (n - 1))) := ((Bar.refl X w).only O1 (fun _ => xg)).only ((Only.refl ka _).setCell (p := ⟨ka, 0, none⟩) rfl _) (fun _ => hxk)
      have H := Lib.hid H2
      have O := Lib.hid O2
      clear h H1 O1 H2 O2 e e2 ea hka hn
      go_enter Try.func25, Try.ntmps25
      go_wp2_with fail
      refine (settle_any _ X g _ ⟨_, _, _, _, H.out⟩).mono ?_
      rintro e w1 ⟨rfl, hd, hb⟩
      go_wp2_with fail
      go_ret
      exact ⟨rfl, hd, O.out.trans hb⟩

def Dk.gCode (s : Dk) : Int := if s.goes then 140 else 0
def Dk.synced (s : Dk) : Dk := if s.goes then s.count else s.count.settle
theorem step_w2 (s : Dk) (X : Nat → Prop) (g : Nat) (w : World) (h : DAt w X g s) : Calls Try.prog 25 #[.pointer (some ⟨g, 0, none⟩), .func (.func 28) #[] #[]] w fun e w' => e = .returned (.int .i64 s.gCode) ∧ DAt w' X g s.count ∧ Bar X w w' := step_w s X g w h
theorem step_s2 (s : Dk) (X : Nat → Prop) (g : Nat) (w : World) (h : DAt w X g s) : Calls Try.prog 25 #[.pointer (some ⟨g, 0, none⟩), .func (.func 26) #[.pointer (some ⟨g, 0, none⟩)] #[]] w fun e w' => e = .returned (.int .i64 s.gCode) ∧ DAt w' X g s.synced ∧ Bar X w w' := step_s s X g w h
theorem range_copied {w : World} {k m : Nat} {b : List Nat} {fr : Nat × Nat} {t : TypeId} (hk : w.heap[k]? = some (.cells (wrV (m, zeros)).toArray t fr)) (hb : b.length ≤ 256) : (w.setCells k 1 (byteVals b)).rangeAt k 0 (wrV (m, pad b)) := by
  have hz : zeros.length = 256 := by unfold zeros; exact List.length_replicate
  have h0 := range_new hk 0
  have h1 : w.rangeAt k 1 (byteVals zeros) := by
    have := range_new hk 1
    unfold wrV at this
    exact this
  have hp : (pad b).length = 256 := by unfold pad; rw [List.length_append, List.length_replicate]; omega
  have h2 := range_part (l := b) (nb := pad b) h1 hz hp hb (fun j hj => by unfold pad; simp [List.getD_eq_getElem?_getD, List.getElem?_append_left hj]) (fun j h1 h2 => by
    unfold pad zeros
    rw [List.getD_eq_getElem?_getD, List.getElem?_append_right h1, List.getElem?_replicate, List.getD_eq_getElem?_getD, List.getElem?_replicate, if_pos (by omega), if_pos h2])
  intro j v hv
  rcases j with _ | j
  · have h3 : v = .int .i64 (m : Int) := by unfold wrV at hv; simpa using hv.symm
    rw [World.cell?_setCells_out k (byteVals b) 1 w ⟨k, 0 + 0, none⟩ (fun _ _ => .inl (by show 0 + 0 < 1; omega)), h3]
    exact h0 0 _ (by unfold wrV; rfl)
  · have h3 := h2 j v (by unfold wrV at hv; simpa using hv)
    rw [show 0 + (j + 1) = 1 + j by omega]
    exact h3
end Go.Proofs.Ytncijclhfndniaa
