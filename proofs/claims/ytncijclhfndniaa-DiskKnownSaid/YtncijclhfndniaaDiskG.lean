/-
  Walks of chapter 14: Read.
-/
import Derived.Test.YtncijclhfndniaaDiskF
import Derived.Deep.RegionHeld3
namespace Go.Proofs.Ytncijclhfndniaa
open Go.RowKit Go.Shelf
attribute [local go_sem] Oper.semAt_some
attribute [local irreducible] byteVals wrVs wrV BlAt okB zeros puts pad Dk.ask Dk.settle Dk.count Dk.gCode Dk.synced fated fateAt lastOf wrOf

/-- a block of 256 bytes of its own -/
def BAt (w : World) (B : Nat) (l : List Nat) : Prop := okB l ∧ (∃ C, w.heap[B]? = some (.cells C 58 (0, 0))) ∧ w.rangeAt B 0 (byteVals l)
theorem BAt.keep {w w' : World} {B : Nat} {l : List Nat} (h : BAt w B l) (hk : w'.heap[B]? = w.heap[B]?) : BAt w' B l := by
  obtain ⟨h0, ⟨C, hC⟩, hr⟩ := h
  exact ⟨h0, ⟨C, by rw [hk, hC]⟩, range_of_blk hk hr⟩
theorem BAt.load {w : World} {B : Nat} {l : List Nat} (h : BAt w B l) : (Instr.loadAt 58 (.pointer (some ⟨B, 0, none⟩))).run Try.prog w = .ok (.agg (byteVals l).toArray) w := load_bl w B 0 l h.1 h.2.2
theorem BAt.store {w : World} {B : Nat} {old l : List Nat} (h : BAt w B old) (hl : okB l) :
    (Instr.storeAt 58 (.pointer (some ⟨B, 0, none⟩)) (.agg (byteVals l).toArray)).run Try.prog w = .ok () (w.setCells B 0 (byteVals l)) ∧ BAt (w.setCells B 0 (byteVals l)) B l ∧ Only B w (w.setCells B 0 (byteVals l)) := by
  obtain ⟨h0, ⟨C, hC⟩, hr⟩ := h
  have hl0 := hl
  have h00 := h0
  unfold okB at h00 hl0
  have ht := there_of_range hC hr
  rw [byteVals_length, h00.1] at ht
  obtain ⟨C2, hC2, _⟩ := blk_setCells (byteVals l) 0 w C hC
  exact ⟨store_bl w B 0 l hl ht, ⟨hl, ⟨C2, hC2⟩, range_part hr h00.1 hl0.1 (by omega) (fun _ _ => rfl) (fun j h1 h2 => by omega)⟩, only_setCells _ _ _⟩
theorem BAt.mine {w : World} {B : Nat} {l : List Nat} (h : BAt w B l) : Mine w B l := by
  obtain ⟨h0, ⟨C, hC⟩, hr⟩ := h
  unfold okB at h0
  refine ⟨h0.2, fun i hi => ?_, fun i hi => blk_free hC i⟩
  have := hr i _ (byteVals_at l i hi)
  rwa [Nat.zero_add] at this
theorem zero_blk : ∃ Z : Array Value, Z = (byteVals zeros).toArray ∧ ∀ w, (zeroValue 58).run Try.prog w = .ok (.agg Z) w := by
  have h := (zero_of_info (P := Try.prog) (t := 58) (v := .agg (Array.replicate 256 (.int .u8 0))) (n := 256) (by kernel_rfl)).1
  refine ⟨_, ?_, h⟩
  have h1 : byteVals zeros = List.replicate 256 (.int .u8 0) := by unfold byteVals zeros; rw [List.map_replicate]; rfl
  rw [h1]; exact (List.toArray_replicate ..).symm
theorem BAt.new (w : World) {Z : Array Value} (hZ : Z = (byteVals zeros).toArray) : BAt (w.alloc (.cells Z 58)) w.heap.size zeros := by
  have h := heap_new1 w (.cells Z 58)
  refine ⟨zeros_okB, ⟨Z, h⟩, ?_⟩
  rw [hZ] at h ⊢
  exact range_new h 0
theorem run_store_is {P : Program} {o : Oper} {a : Act} {w w' : World} (ty : TypeId) (x y : Operand) (ho : o.op = .store ty x y) {vx vy : Value} (hx : a.eval x = vx) (hy : a.eval y = vy) (hr : (Instr.storeAt ty vx vy).run P w = .ok () w') : (execOp a.eval o).run P w = .ok .skip w' := by
  unfold execOp
  simp only [ho, hx, hy, Sem.run_bind, hr, Result.andThen_ok, Sem.run_pure]
/-- what Read tells -/
def Dk.rd (s : Dk) (i : Int) : List Nat := if s.ask i = 0 then s.at i.toNat else []
def ReadIs (s : Dk) (i : Int) (w : World) (e : Ending) (w' : World) : Prop :=
  (∃ a c, e = .returned (.tuple #[.slice a (s.rd i).length c, .int .i64 (s.ask i)]) ∧ ((s.rd i = [] ∧ a = none ∧ c = 0) ∨ ∃ B, a = some ⟨B, 0, none⟩ ∧ w.heap.size ≤ B ∧ B < w'.heap.size ∧ c = 256 ∧ Mine w' B (s.rd i))) ∧ Below w.heap.size w w'
theorem ask_box (s : Dk) (i : Int) (X : Nat → Prop) (g : Nat) (w : World) (h : DAt w X g s) (o : Obj) : Calls Try.prog 27 #[.pointer (some ⟨g, 0, none⟩), .int .i64 i] (w.alloc o) fun e w' => e = .returned (.int .i64 (s.ask i)) ∧ w.alloc o = w' := asked_any s X g i _ (h.below (below1 w o))
theorem lastOf_append (m : Nat) (a b : List (Nat × List Nat)) : lastOf m (a ++ b) = match lastOf m b with | some x => some x | none => lastOf m a := by
  induction a with
  | nil => simp only [List.nil_append]; cases h : lastOf m b <;> simp [lastOf]
  | cons p l ih =>
    simp only [List.cons_append, lastOf]
    rw [ih]
    cases h : lastOf m b with
    | some x => rfl
    | none => rfl
theorem lastOf_none {m : Nat} : ∀ {l : List (Nat × List Nat)}, (∀ q ∈ l, q.1 ≠ m) → lastOf m l = none := by
  intro l
  induction l with
  | nil => intro _; simp [lastOf]
  | cons p l ih =>
    intro h
    simp only [lastOf]
    rw [ih (fun q hq => h q (List.mem_cons_of_mem _ hq)), if_neg (h p List.mem_cons_self)]
theorem at_none {s : Dk} {m : Nat} {b : List Nat} {ys : List (Nat × List Nat)} (hy : ys = s.op.reverse) (hn : ∀ q ∈ ys, q.1 ≠ m) (hb : s.bl[m]? = some b) : s.at m = b := by
  unfold Dk.at
  rw [lastOf_none (fun q hq => hn q (by rw [hy]; exact List.mem_reverse.2 hq)), List.getD_eq_getElem?_getD, hb]; rfl
theorem at_some {s : Dk} {m k : Nat} {p : Nat × List Nat} {pre : List (Nat × List Nat)} (hy : pre ++ [p] = (s.op.drop k).reverse) (hn : ∀ q ∈ pre, q.1 ≠ m) (hp : p.1 = m) : s.at m = p.2 := by
  have h1 : s.op.drop k = p :: pre.reverse := by
    have := congrArg List.reverse hy
    rw [List.reverse_reverse] at this
    rw [← this]; simp
  have h2 : lastOf m s.op = some p.2 := by
    rw [← List.take_append_drop k s.op, lastOf_append, h1]
    have h3 : lastOf m (p :: pre.reverse) = some p.2 := by
      simp only [lastOf]
      rw [lastOf_none (fun q hq => hn q (List.mem_reverse.1 hq)), if_pos hp]
    rw [h3]
  unfold Dk.at
  rw [h2]; rfl
theorem op_shape {w : World} {X : Nat → Prop} {g : Nat} {s : Dk} {ad : Option Addr} {cb : Nat} {a : Option Addr} {cap : Nat} {ap : Option Addr} (h : DkAt w X g s ad cb (.slice a s.op.length cap) ap) :
    ∃ q, ((Value.slice a s.op.length cap = .slice none 0 0 ∧ s.op = []) ∨ (Value.slice a s.op.length cap = .slice (some ⟨q, 0, none⟩) s.op.length cap ∧ q < w.heap.size)) ∧ ∀ (k : Nat) (p : Nat × List Nat), s.op[k]? = some p → w.rangeAt q (k * 257) (wrV p) := by
  obtain ⟨a', cap', e, hr⟩ := own_wr h
  cases e
  cases ho : s.op with
  | nil => exact ⟨0, .inl ⟨by rw [← ho]; exact h.nil ho, rfl⟩, fun k p hp => by simp at hp⟩
  | cons p0 l =>
    obtain ⟨q, ea, hx, _, _⟩ := hr 0 p0 (by rw [ho]; rfl)
    refine ⟨q, .inr ⟨by rw [ea], h.lt q hx⟩, fun k p hp => ?_⟩
    obtain ⟨q', ea', _, hq, _⟩ := hr k p (by rw [ho]; exact hp)
    rw [ea] at ea'
    cases ea'
    exact hq
theorem read_fin {s : Dk} {m B1 D : Nat} {w W' : World} {l : List Nat} (hb : BAt W' B1 l) (hl : s.at m = l) (ha : s.ask m = 0) (hB : Below w.heap.size w W') (hw : w.heap.size ≤ B1) (hD : B1 < D) (hK : W'.heap[D]? = some (.deferred (some []))) :
    ReadIs s m w (.returned (.tuple #[.slice (some ⟨B1, 0, none⟩) 256 256, .int .i64 0])) (W'.putObj D (.deferred none)) := by
  have e1 : s.rd m = l := by unfold Dk.rd; rw [if_pos ha]; exact hl
  have hb2 : BAt (W'.putObj D (.deferred none)) B1 l := hb.keep (World.putObj_heap_other (by omega))
  have hlt : B1 < (W'.putObj D (.deferred none)).heap.size := by obtain ⟨C, hC⟩ := hb2.2.1; exact blk_lt hC
  have hl2 : l.length = 256 := by have := hb.1; unfold okB at this; exact this.1
  exact ⟨⟨_, _, by rw [e1, hl2, ha], .inr ⟨B1, rfl, hw, hlt, rfl, by rw [e1]; exact hb2.mine⟩⟩, hB.trans (belowK_b (w := w) (Nat.le_refl _) W' D _ _ (by omega) hK rfl rfl)⟩
theorem keeps_only {g : Nat} {w w' : World} {t : TypeId} {fr : Nat × Nat} (h : Only g w w') (hg : ∃ C, w.heap[g]? = some (.cells C t fr)) : KeepsOthers w w' := by
  obtain ⟨C, hC⟩ := hg
  refine ⟨h.size, fun k o hk hc => (h.block k (blk_lt hk) ?_).trans hk⟩
  rintro rfl
  rw [hC] at hk; cases hk; cases hc
theorem grown_block {A B : World} {row : Option Nat} {n k : Nat} (hg : A.grownBy B row) (hr : ∀ r, row = some r → n ≤ r ∧ ∃ o : Obj, A.heap[r]? = some o ∧ o.isCells = false) (hk : k < A.heap.size) (hn : k < n) : B.heap[k]? = A.heap[k]? :=
  hg.block k hk (fun e => by have := (hr k (by first | exact e | exact e.symm)).1; omega)
theorem grown_below {A B w : World} {row : Option Nat} {n : Nat} (hg : A.grownBy B row) (hr : ∀ r, row = some r → n ≤ r ∧ ∃ o : Obj, A.heap[r]? = some o ∧ o.isCells = false) (hn : w.heap.size ≤ n) (h : Below w.heap.size w A) : Below w.heap.size w B :=
  ⟨hg.os.trans h.os, hg.tape.trans h.tape, hg.output.trans h.output, Nat.le_trans h.size hg.size, fun i hi => (grown_block hg hr (Nat.lt_of_lt_of_le hi h.size) (by omega)).trans (h.block i hi)⟩
set_option maxRecDepth 100000 in
set_option maxHeartbeats 4000000 in
theorem read_no (s : Dk) (X : Nat → Prop) (g : Nat) (i : Int) (w : World) (h : DAt w X g s) (ha : ¬ s.ask i = 0) : Calls Try.prog 15 #[.pointer (some ⟨g, 0, none⟩), .int .i64 i] w (ReadIs s i w) := by
  have H := Lib.hid h
  have e1 : s.rd i = [] := by unfold Dk.rd; rw [if_neg ha]
  have HE := Lib.hid e1
  have d1 : (s.ask i != 0) = true := by simpa using ha
  have d2 : (s.ask i == 0) = false := by simpa using ha
  clear h ha e1
  refine (callsIn_wide (n := 6)).1 ?_
  refine callsIn_of_wp_marks Try.func15 rfl trivial ?_ rfl
  simp only [Try.ntmps15, List.size_toArray, List.length_cons, List.length_nil, Nat.reduceAdd, Nat.reduceSub, Array.replicate_succ, Array.replicate_zero, List.push_toArray, List.append_toArray, List.nil_append, List.cons_append]
  refine wpIn_wide.2 ?_
  go_wp2_with fail
  refine (ask_box s i X g w H.out _).mono ?_
  rintro e w1 ⟨rfl, rfl⟩
  go_wp2_with fail
  refine ⟨_, results_tmp2 rfl _ _ _, ⟨none, 0, ?_, .inl ⟨HE.out, rfl, rfl⟩⟩, below1 _ _⟩
  rw [HE.out]; rfl
set_option maxRecDepth 100000 in
set_option maxHeartbeats 4000000 in
theorem read_yes (s : Dk) (X : Nat → Prop) (g : Nat) (m : Nat) (w : World) (h : DAt w X g s) (ha : s.ask m = 0) : Calls Try.prog 15 #[.pointer (some ⟨g, 0, none⟩), .int .i64 m] w (ReadIs s m w) := by
  have H := Lib.hid h
  have hms : m < s.bl.length := by
    unfold Dk.ask at ha
    split at ha
    · cases ha
    · split at ha
      · cases ha
      · omega
  obtain ⟨Z, hZ, hzero⟩ := zero_blk
  have HZ := Lib.hid hZ
  have HA := Lib.hid ha
  clear h ha hZ
  refine (callsIn_wide (n := 6)).1 ?_
  refine callsIn_of_wp_marks Try.func15 rfl trivial ?_ rfl
  simp only [Try.ntmps15, List.size_toArray, List.length_cons, List.length_nil, Nat.reduceAdd, Nat.reduceSub, Array.replicate_succ, Array.replicate_zero, List.push_toArray, List.append_toArray, List.nil_append, List.cons_append]
  refine wpIn_wide.2 ?_
  go_wp2_with fail
  refine (ask_box s m X g w H.out _).mono ?_
  rintro e w1 ⟨rfl, rfl⟩
  rw [HA.out]
  go_wp2_with fail
  have hdb := (H.out.below (below1 w (.cells #[.int .i64 (m : Int)] 3)))
  have hbx := heap_new1 w (.cells #[.int .i64 (m : Int)] 3)
  have hbw := below1 w (.cells #[.int .i64 (m : Int)] 3)
  refine name_world ?_
  intro W hW
  rw [← hW] at hdb hbx hbw
  have hWs : W.heap.size = w.heap.size + 1 := by rw [hW]; simp
  clear hW
  obtain ⟨ad, cb, v, ap, hD⟩ := hdb
  obtain ⟨a, cap, rfl, hrows⟩ := own_wr hD
  obtain ⟨b0, hb0⟩ : ∃ b, s.bl[m]? = some b := ⟨_, List.getElem?_eq_getElem hms⟩
  have hok0 : okB b0 := hD.ok.blk b0 (List.mem_of_getElem? hb0)
  obtain ⟨kb, rfl, hxb, hbl⟩ := hD.bl.resolve_left (by intro e; rw [e] at hms; simp at hms)
  have hr0 : W.rangeAt kb (m * 256) (byteVals b0) := by unfold BlAt at hbl; exact hbl.2 m b0 hb0
  have HKB : Hid (kb < W.heap.size) := Lib.hid (by unfold BlAt at hbl; obtain ⟨⟨C, hC⟩, _⟩ := hbl; exact blk_lt hC)
  have hg0 := blk_cell hD.hd 0 _ rfl
  have hi0 := blk_cell hbx 0 _ rfl
  have j1 : (m : Int) < s.bl.length := by omega
  have j2 : (0 : Int) ≤ m := by omega
  have HD := Lib.hid hD
  have HRW := Lib.hid hrows
  have HOK0 := Lib.hid hok0
  have HB0 := Lib.hid hb0
  have HWS := Lib.hid hWs
  have HBX := Lib.hid hbx
  clear hD hrows hbl hxb hb0 hok0 hms hWs hbx
  refine wp_region_noPanic ?_
  refine wp_region_held_drew (S := fun w' => w'.cell? ⟨g, 0, none⟩ = some (.slice (some ⟨kb, 0, none⟩) s.bl.length cb) ∧ w'.cell? ⟨w.heap.size, 0, none⟩ = some (.int .i64 (m : Int)) ∧ w'.rangeAt kb (m * 256) (byteVals b0)) (by kernel_rfl) ⟨hg0, hi0, hr0⟩ (fun hH => ?_)
  refine wpAnyH_take (i := 0) (v := .pointer (some ⟨g, 0, none⟩)) rfl (by kernel_rfl) (by kernel_rfl) (by kernel_rfl) (fun _ _ _ h => h) (Or.inl ⟨by rfl, fun w hS => by go_simp⟩) hH ?_
  refine wpAnyH_take (i := 1) (v := .pointer (some ⟨g, 0, none⟩)) rfl (by kernel_rfl) (by kernel_rfl) (by kernel_rfl) (fun _ _ _ h => h) (Or.inl ⟨by rfl, fun w hS => by go_simp⟩) hH ?_
  refine wpAnyH_take (i := 2) (v := .pointer (some ⟨g, 0, none⟩)) rfl (by kernel_rfl) (by kernel_rfl) (by kernel_rfl) (fun _ _ _ h => h) (Or.inl ⟨by rfl, fun w hS => by go_simp⟩) hH ?_
  refine wpAnyH_take (i := 3) (v := .slice (some ⟨kb, 0, none⟩) s.bl.length cb) rfl (by kernel_rfl) (by kernel_rfl) (by kernel_rfl) (fun _ _ _ h => h) (Or.inl ⟨by rfl, fun w hS => by obtain ⟨e1, e2, e3⟩ := hS; go_simp⟩) hH ?_
  refine wpAnyH_take (i := 4) (v := .int .i64 (m : Int)) rfl (by kernel_rfl) (by kernel_rfl) (by kernel_rfl) (fun _ _ _ h => h) (Or.inl ⟨by rfl, fun w hS => by obtain ⟨e1, e2, e3⟩ := hS; go_simp⟩) hH ?_
  refine wpAnyH_take (i := 5) (v := .pointer (some ⟨kb, m * 256, none⟩)) rfl (by kernel_rfl) (by kernel_rfl) (by kernel_rfl) (fun _ _ _ h => h) (Or.inl ⟨by rfl, fun w hS => by go_simp⟩) hH ?_
  refine wpAnyH_take (i := 6) (oi := ⟨some 22, _, _, _, _, _⟩) (v := .agg (byteVals b0).toArray) rfl (by kernel_rfl) (by kernel_rfl) (by kernel_rfl) (fun _ _ _ h => h) (Or.inl ⟨by rfl, fun w hS => run_load_is 58 (.tmp 21) rfl (vx := .pointer (some ⟨kb, m * 256, none⟩)) (by go_simp) (load_bl w kb (m * 256) b0 HOK0.out hS.2.2)⟩) hH ?_
  refine wpAnyH_ready (rs := [7]) (by kernel_rfl) (by simp) (AllReadyH.cons (o := ⟨some 7, _, _, _, _, _⟩) rfl (fun K hK => ?_) AllReadyH.nil)
  go_simp
  have hn1 := BAt.new W HZ.out
  have hbN := below1 W (.cells Z 58)
  have hS2 := (show (W.alloc (.cells Z 58)).drew.cell? ⟨g, 0, none⟩ = some (.slice (some ⟨kb, 0, none⟩) s.bl.length cb) ∧ (W.alloc (.cells Z 58)).drew.cell? ⟨w.heap.size, 0, none⟩ = some (.int .i64 (m : Int)) ∧ (W.alloc (.cells Z 58)).drew.rangeAt kb (m * 256) (byteVals b0) from ⟨cell_later hbN.drew hg0, cell_later hbN.drew hi0, World.rangeAt_alloc hr0 _⟩)
  refine hK.out _ _ hS2 (fun hH2 => ?_)
  obtain ⟨hst, hb1, ho1⟩ := (BAt.store (w := (W.alloc (.cells Z 58)).drew) (old := zeros) hn1 HOK0.out)
  have HST := Lib.hid hst
  clear hK K hst hn1
  obtain ⟨W1, hW1⟩ : ∃ W1, W1 = (W.alloc (.cells Z 58)).drew.setCells W.heap.size 0 (byteVals b0) := ⟨_, rfl⟩
  rw [← hW1] at hb1 ho1 HST
  have hbW1 : Below W.heap.size W W1 := Only.below (hbN.drew) (Nat.le_refl _) hbN.size ho1
  have hW1s : W.heap.size < W1.heap.size := Nat.lt_of_lt_of_le (by show W.heap.size < (W.heap.push _).size; simp) ho1.size
  refine wpAnyH_ready (rs := [8]) (by kernel_rfl) (by simp) (AllReadyH.cons (o := ⟨none, _, _, _, _, _⟩) rfl (fun K hK => ?_) AllReadyH.nil)
  rw [if_pos (by rfl)]
  refine wp_run_skip (w' := W1) (run_store_is 58 (.tmp 7) (.tmp 22) rfl (vx := .pointer (some ⟨W.heap.size, 0, none⟩)) (vy := .agg (byteVals b0).toArray) (by go_simp) (by go_simp) HST.out) ?_
  refine hK.out _ _ ⟨cell_later hbW1 hg0, cell_later hbW1 hi0, ?_⟩ (fun hH3 => ?_)
  · exact range_of_blk (hbW1.block kb HKB.out) hr0
  refine wpAnyH_done (by kernel_rfl) ?_ _
  refine NoPanic.normal ?_
  clear hK K hH hH2 hS2 hH3 hg0 hr0 HST HZ
  simp only [Act.put]
  have h10 : W1.cell? ⟨g, 1, none⟩ = some (.slice a s.op.length cap) := cell_later hbW1 (blk_cell HD.out.hd 1 _ rfl)
  have hwW : Below w.heap.size w W1 := hbw.trans (hbW1.mono hbw.size)
  have hbx1 : W1.heap[w.heap.size]? = some (.cells #[.int .i64 (m : Int)] 3 (0, 0)) := blk_keep hbW1 HBX.out
  obtain ⟨q, hsh, hrw⟩ := op_shape HD.out
  have HSH := Lib.hid hsh
  have HR2 := Lib.hid hrw
  have HB1 := Lib.hid hb1
  have HO := Lib.hid (fun p hp => (HD.out.ok.opn p hp).2)
  have HMX : Hid (s.op.length ≤ maxLen) := Lib.hid (by
    rcases HD.out.op.2 with ⟨_, h0⟩ | ⟨q, c2, cur, e, hg, hheap, hncap, hcm, hsz, htake⟩
    · rw [h0]; exact Nat.zero_le _
    · exact Nat.le_trans hncap hcm)
  have hbW1' := hbW1
  clear hsh hrw hb1 ho1 hbN hi0
  obtain ⟨N, hN⟩ : ∃ N, N = s.op.length := ⟨_, rfl⟩
  rw [← hN] at h10
  have HN := Lib.hid hN
  clear hN hW1
  go_wp2_with fail
  refine (backward_any a N cap _).mono ?_
  rintro e w2 ⟨rfl, rfl⟩
  go_wp2_with fail
  refine (wpIn_wide (n := 6)).1 ?_
  have hbox := heap_new1 W1 (.cells #[.slice a N cap] 51)
  have hb2 := below1 W1 (.cells #[.slice a N cap] 51)
  have hs2 : (W1.alloc (.cells #[.slice a N cap] 51)).heap.size = W1.heap.size + 1 := by simp
  obtain ⟨W2, hW2⟩ : ∃ W2, W2 = W1.alloc (.cells #[.slice a N cap] 51) := ⟨_, rfl⟩
  rw [← hW2] at hbox hb2 hs2 ⊢
  clear hW2 h10
  obtain ⟨Z6, hZ6, hzero6, _⟩ := zero_wr
  have HZ6 := Lib.hid hZ6
  clear hZ6
  have hbW2 : Below W.heap.size W W2 := hbW1'.trans (hb2.mono hbW1'.size)
  have hwW2 : Below w.heap.size w W2 := hbw.trans (hbW2.mono hbw.size)
  have hbx2 : W2.heap[w.heap.size]? = some (.cells #[.int .i64 (m : Int)] 3 (0, 0)) := blk_keep hb2 hbx1
  have hB2 : BAt W2 W.heap.size b0 := HB1.out.keep (hb2.block _ hW1s)
  have hww : w.heap.size < W.heap.size := by rw [HWS.out]; omega
  have hw2 : W.heap.size < W2.heap.size := by omega
  refine wpIn_rangeFunc_ownH rfl (by omega) (gf := 39) (lb := #[.pointer (some ⟨W1.heap.size, 0, none⟩)]) rfl trivial (enters_of Try.func39 (by kernel_rfl) rfl)
    (backward_stops (6 - 1) (by omega) W1.heap.size q cap (.slice a N cap) s.op W2 (fun k => k < W2.heap.size ∧ k ≠ W.heap.size)
      (by rw [HN.out]; exact HSH.out.imp id (fun h => ⟨h.1, by have := hbW2.size; omega, by omega⟩)) hbox ⟨by omega, by omega⟩ (fun k hk => hk.1) HO.out
      (fun k p hp => range_of_blk (hbW2.block q (by rcases HSH.out with ⟨_, h0⟩ | ⟨_, h1⟩; (rw [h0] at hp; simp at hp); exact h1)) (HR2.out k p hp)) HMX.out) keepZ_t (keepZ_b (fun k hk => hk.1)) (Below.refl _ _) (fun _ => rfl)
    (fun (pre : List Wr) V => BAt V W.heap.size b0 ∧ V.heap[w.heap.size]? = some (.cells #[.int .i64 (m : Int)] 3 (0, 0)) ∧ (∀ q ∈ wrOf pre, q.1 ≠ m) ∧ Below w.heap.size w V ∧ W2.heap.size ≤ V.heap.size)
    (fun c (pre : List Wr) V => c = .exit 0 ∧ ∃ (pre' : List (Nat × List Nat)) (p : Nat × List Nat), wrOf pre = pre' ++ [p] ∧ (∀ q ∈ pre', q.1 ≠ m) ∧ p.1 = m ∧ BAt V W.heap.size p.2 ∧ Below w.heap.size w V ∧ W2.heap.size ≤ V.heap.size)
    (fun pre A B row hs hg hr => ⟨hs.1.keep (grown_block hg hr (by have := hs.2.2.2.2; omega) hw2), (grown_block hg hr (by have := hs.2.2.2.2; omega) (by omega)).trans hs.2.1, hs.2.2.1, grown_below hg hr (by omega) hs.2.2.2.1, Nat.le_trans hs.2.2.2.2 hg.size⟩)
    (fun c pre A B row hs hg hr => by
      obtain ⟨h1, pre', p, h2, h3, h4, h5, h6, h7⟩ := hs
      exact ⟨h1, pre', p, h2, h3, h4, h5.keep (grown_block hg hr (by omega) hw2), grown_below hg hr (by omega) h6, Nat.le_trans h7 hg.size⟩)
    ⟨hB2, hbx2, (fun q hq => by unfold wrOf at hq; simp at hq), hwW2, Nat.le_refl _⟩
    (fun (x : Wr) a' V => ∃ Bw, W2.heap.size ≤ Bw ∧ V.heap[Bw]? = some (.cells (wrV x.1.2).toArray 60 (0, 0)) ∧ a' = { tmps := #[.pointer (some ⟨g, 0, none⟩), .int .i64 (m : Int), undef, .pointer (some ⟨w.heap.size, 0, none⟩), .slice none 0 0, .int .i64 0, .int .i64 0, .pointer (some ⟨W.heap.size, 0, none⟩), undef, .pointer (some ⟨Bw, 0, none⟩), .pointer (some ⟨g, 0, none⟩), .int .i64 (m : Int), .int .i64 0, .int .i64 0, .bool false, undef, .pointer (some ⟨g, 0, none⟩), .pointer (some ⟨g, 0, none⟩), .pointer (some ⟨g, 0, none⟩), .slice (some ⟨kb, 0, none⟩) s.bl.length cb, .int .i64 (m : Int), .pointer (some ⟨kb, m * 256, none⟩), .agg (byteVals b0).toArray, .pointer (some ⟨g, 0, none⟩), .pointer (some ⟨g, 0, none⟩), .pointer (some ⟨g, 1, none⟩), .slice a N cap, .func (.func 39) #[] #[.pointer (some ⟨W1.heap.size, 0, none⟩)], .int .i64 (x.1.1 : Int), .agg (wrV x.1.2).toArray, undef, undef, undef, undef, undef, undef, undef], defers := [] })
    (fun x a' _ A B row hs hg hr => by
      obtain ⟨Bw, h1, h2, h3⟩ := hs
      refine ⟨Bw, h1, ?_, h3⟩
      rw [hg.block Bw (blk_lt h2) (fun e => ?_), h2]
      obtain ⟨_, o, ho, hc⟩ := hr Bw (by first | exact e | exact e.symm)
      rw [h2] at ho; cases ho; cases hc)
    ?assign ?body ?done ?stop
  case assign =>
    rintro l pre x V K ⟨i1, i2, i3, i4, i5⟩ hK
    have HS := Lib.hid (store_new V x.1.2 x.2 Z6 HZ6.out)
    dsimp only [encW]
    gi_wp2_with (refine wpListIn_store_is (op := ⟨none, .store 60 _ _, _, _, _, _⟩) rfl 60 _ _ rfl _ _ rfl rfl _ HS.out ?_)
    have hbV := below1 V (.cells (wrV x.1.2).toArray 60)
    have hsV : V.heap.size ≤ (V.alloc (.cells (wrV x.1.2).toArray 60)).heap.size := hbV.size
    exact hK _ _ ((KeepsOthers.alloc _ _).from _) (fun k hk => hbV.block k (by have := hk.1; omega)) ⟨i1.keep (hbV.block _ (by omega)), blk_keep hbV i2, i3, i4.trans (hbV.mono i4.size), Nat.le_trans i5 hsV⟩ ⟨V.heap.size, i5, heap_new1 V _, rfl⟩
  case body =>
    rintro l pre x a' V hl ⟨r, hr⟩ ⟨i1, i2, i3, i4, i5⟩ ⟨Bw, hBw, hb, rfl⟩ hlt
    have e0 : V.cell? ⟨Bw, 0, none⟩ = some (.int .i64 (x.1.2.1 : Int)) := range_new hb 0 0 _ (by unfold wrV; rfl)
    have e1 := blk_cell i2 0 _ rfl
    have hr2 : V.rangeAt Bw 1 (byteVals x.1.2.2) := by have := range_new hb 1; unfold wrV at this; exact this
    have HL := Lib.hid (load_bl V Bw 1 x.1.2.2 x.2 hr2)
    obtain ⟨hst, hb5, ho5⟩ := i1.store x.2
    have HS := Lib.hid hst
    have HI3 := Lib.hid i3
    clear hst hr2 i3
    by_cases hpm : x.1.2.1 = m
    · have HPM := Lib.hid hpm
      have d1 : ((x.1.2.1 : Int) == (m : Int)) = true := by rw [hpm]; simp
      have d2 : ((x.1.2.1 : Int) != (m : Int)) = false := by rw [hpm]; simp
      clear hpm
      gi_wp2_with (first
        | (refine wpListIn_load_is (op := ⟨some 35, _, _, _, _, _⟩) rfl 58 _ rfl _ _ rfl HL.out ?_)
        | (refine wpListIn_store_is (op := ⟨none, .store 58 _ _, _, _, _, _⟩) rfl 58 _ _ rfl _ _ rfl rfl _ HS.out ?_))
      exact ⟨(keeps_only ho5 i1.2.1).from _, rfl, _, _, wrOf_append _ _, HI3.out, HPM.out, hb5, Only.below i4 (by omega) i4.size ho5, Nat.le_trans i5 ho5.size⟩
    · have HPM := Lib.hid hpm
      have d1 : ((x.1.2.1 : Int) == (m : Int)) = false := by simp; omega
      have d2 : ((x.1.2.1 : Int) != (m : Int)) = true := by simp; omega
      clear hpm
      gi_wp2
      refine ⟨KeepsFrom.refl _ _, (fun k _ => rfl), i1, i2, ?_, i4, i5⟩
      rw [wrOf_append]
      intro q hq
      rcases List.mem_append.1 hq with hq | hq
      · exact HI3.out q hq
      · have : q = x.1.2 := by simpa using hq
        rw [this]; exact HPM.out
  case done =>
    rintro D ys V hD hS ⟨i1, i2, i3, i4, i5⟩ hK
    have HS := Lib.hid hS
    have HI := Lib.hid i3
    clear hS i2 i3
    go_wp2_with fail
    refine ⟨by simp, .inl ⟨_, _, rfl, run_takeDeferred hK, ?_⟩⟩
    exact ⟨_, results_tmp2 (t := 4) (u := 5) rfl _ _ _, read_fin i1 (at_none HS.out HI.out HB0.out) HA.out i4 (by omega) (by omega) hK⟩
  case stop =>
    rintro D c pre V hD ⟨k, hk⟩ ⟨rfl, pre', p, h2, h3, h4, h5, h6, h7⟩ hK
    have HK2 := Lib.hid (h2.symm.trans hk)
    have HI := Lib.hid h3
    have H4 := Lib.hid h4
    clear hk h2 h3 h4
    gi_wp2
    go_wp2_with fail
    refine ⟨by simp, .inl ⟨_, _, rfl, run_takeDeferred hK, ?_⟩⟩
    exact ⟨_, results_tmp2 (t := 4) (u := 5) rfl _ _ _, read_fin h5 (at_some HK2.out HI.out H4.out) HA.out h6 (by omega) (by omega) hK⟩
end Go.Proofs.Ytncijclhfndniaa
