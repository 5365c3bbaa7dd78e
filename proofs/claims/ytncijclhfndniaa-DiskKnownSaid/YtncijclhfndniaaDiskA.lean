/-
  Walks of chapter 14: small functions.
-/
import Derived.Test.YtncijclhfndniaaProg
import Derived.Test.YtncijclhfndniaaDisk
import Derived.Test.YtncijclhfndniaaRead2
import Derived.Test.YtncijclhfndniaaCalm
import Derived.RegionTactic
import Derived.Deep.QuietTactic
import Derived.BigQuiet
import Derived.IntWalk
import Derived.Deep.CutRange
import Derived.Deep.RegionWith
namespace Go.Proofs.Ytncijclhfndniaa
open Go.RowKit
attribute [local irreducible] byteVals wrVs BlAt okB zeros
theorem info_blk : (Try.prog.info? 58).map (fun i => (i.zero, i.size, i.bytes)) = some (some (.agg (Array.replicate 256 (.int .u8 0))), 256, 256) := by kernel_rfl
theorem info_wrt : (Try.prog.info? 60).map (fun i => (i.zero, i.size, i.bytes)) = some (some (.agg (#[.int .i64 0] ++ Array.replicate 256 (.int .u8 0))), 257, 264) := by kernel_rfl
theorem made_get (m j : Nat) (hj : j < m * 256) : (madeCells (Array.replicate 256 (Value.int .u8 0)) (m * 256))[j]? = some (.int .u8 0) := by
  unfold madeCells
  generalize hN : (256 : Nat) = N at *
  have h2 : j % N < N := Nat.mod_lt _ (by omega)
  rw [Array.getElem?_map, Array.getElem?_range, if_pos hj]
  simp [h2]
theorem made_blk (m : Nat) (hm : m ≤ 4096) : ∃ C : Array Value, C.size = m * 256 ∧ (∀ j, j < m * 256 → C[j]? = some (.int .u8 0)) ∧ ∀ w, (Instr.makeSlice 50 (.int .i64 (m : Int)) (.int .i64 (m : Int))).run Try.prog w = .ok (.slice (some ⟨w.heap.size, 0, none⟩) m m) (w.alloc (.cells C 58)) := by
  obtain ⟨i0, hi, hz0, hz1, hz2⟩ := info_parts info_blk
  refine ⟨madeCells (Value.agg (Array.replicate 256 (.int .u8 0))).cells (m * 256), size_madeCells _ _, fun j hj => ?_, fun w => ?_⟩
  · exact made_get m j hj
  · have := run_makeSlice (P := Try.prog) (w := w) 50 58 i0 (.agg (Array.replicate 256 (.int .u8 0))) Try.underlying50 hi hz0 .i64 .i64 m m (by omega) (by omega) (by rw [hz1]; omega) (by rw [hz2]; omega) (by omega)
    rw [hz1] at this
    simpa using this
theorem zeros_range {w : World} {k m : Nat} {C : Array Value} {t : TypeId} {fr : Nat × Nat} (hk : w.heap[k]? = some (.cells C t fr)) (hC : ∀ j, j < m * 256 → C[j]? = some (.int .u8 0)) (i : Nat) (hi : i < m) : w.rangeAt k (i * 256) (byteVals zeros) := by
  intro j v hv
  have hz : zeros.length = 256 := by unfold zeros; exact List.length_replicate
  have hj : j < 256 := by
    have := (List.getElem?_eq_some_iff.1 hv).1
    rw [byteVals_length, hz] at this
    exact this
  have h2 := byteVals_get zeros j (by rw [hz]; exact hj)
  rw [h2] at hv
  cases hv
  have h3 : zeros.getD j 0 = 0 := by
    unfold zeros
    rw [List.getD_eq_getElem?_getD, List.getElem?_replicate, if_pos hj]; rfl
  rw [h3]
  have h4 : i * 256 + j < m * 256 := by
    have : (i + 1) * 256 ≤ m * 256 := Nat.mul_le_mul_right _ hi
    omega
  simp [World.cell?, hk, hC _ h4]
theorem new_ok (m : Nat) (hm : m ≤ 4096) : (Dk.new m).ok :=
  ⟨fun b hb => by rw [List.eq_of_mem_replicate hb]; exact zeros_ok, fun p hp => by simp [Dk.new] at hp, by simpa [Dk.new] using hm, fun n h => by simp [Dk.new] at h⟩
theorem new_at {w w' : World} {m : Nat} (hm : m ≤ 4096) {C : Array Value} (hC : ∀ j, j < m * 256 → C[j]? = some (.int .u8 0)) (h : w' = (w.alloc (.cells C 58)).alloc (.cells #[.slice (some ⟨w.heap.size, 0, none⟩) m m, .slice none 0 0, .int .i64 0, .pointer none, .bool false] 54)) :
    DAt w' (fun k => w.heap.size ≤ k ∧ k < w.heap.size + 2) (w.heap.size + 1) (Dk.new m) ∧ Below w.heap.size w w' := by
  obtain ⟨h1, h2⟩ := alloc2' w (.cells C 58) (.cells #[.slice (some ⟨w.heap.size, 0, none⟩) m m, .slice none 0 0, .int .i64 0, .pointer none, .bool false] 54)
  have hsz : w'.heap.size = w.heap.size + 2 := by rw [h]; show ((w.heap.push _).push _).size = _; simp
  have hb : Below w.heap.size w w' := by rw [h]; exact below2' _ _ _
  rw [← h] at h1 h2
  refine ⟨⟨some ⟨w.heap.size, 0, none⟩, m, .slice none 0 0, none, ?_⟩, hb⟩
  have hl : (Dk.new m).bl.length = m := List.length_replicate
  refine ⟨by rw [hl]; exact h2, ⟨by omega, by omega⟩, fun k hk => by omega, new_ok m hm, .inr ⟨w.heap.size, rfl, ⟨by omega, by omega⟩, ?_⟩, by (show w'.ownsRow 0 60 257 (.slice none 0 0) 0 (wrVs []); rw [wrVs_nil]; exact World.ownsRow_nil _ _ _ _), fun q hq => (by cases hq), fun _ => rfl, rfl⟩
  unfold BlAt
  refine ⟨⟨C, h1⟩, fun i b hb => ?_⟩
  have hi : i < m := by
    have := (List.getElem?_eq_some_iff.1 hb).1
    rw [hl] at this; exact this
  have hbz : b = zeros := List.eq_of_mem_replicate (List.mem_of_getElem? hb)
  rw [hbz]
  exact zeros_range h1 hC i hi
set_option maxRecDepth 100000 in
set_option maxHeartbeats 2000000 in
theorem new_any (n : Int) (w : World) : Calls Try.prog 8 #[.int .i64 n] w fun e w' => ∃ (X : Nat → Prop) (g m : Nat), (m : Int) = max 0 (min 4096 n) ∧ e = .returned (.pointer (some ⟨g, 0, none⟩)) ∧ DAt w' X g (Dk.new m) ∧ (∀ k, X k → w.heap.size ≤ k) ∧ Below w.heap.size w w' := by
  by_cases h1 : n ≤ 0
  · obtain ⟨C, hC1, hC2, hmk⟩ := made_blk 0 (by omega)
    have hmk2 : ∀ w, (Instr.makeSlice 50 (.int .i64 0) (.int .i64 0)).run Try.prog w = .ok (.slice (some ⟨w.heap.size, 0, none⟩) 0 0) (w.alloc (.cells C 58)) := hmk
    have h2 : n < 4096 := by omega
    have h3 : ¬ 0 < n := by omega
    have h4 : ¬ 4096 < n := by omega
    have h5 : n ≤ 4096 := by omega
    have h6 : ¬ 4096 ≤ n := by omega
    have HM : Hid ((0 : Nat) = max 0 (min 4096 n)) := Lib.hid (by omega)
    have HC := Lib.hid hC2
    clear hmk hC1 hC2
    go_enter Try.func8, Try.ntmps8
    go_wp2_with fail
    go_ret
    exact ⟨_, _, 0, HM.out, rfl, (new_at (by omega) HC.out rfl).1, fun k hk => hk.1, (new_at (m := 0) (by omega) HC.out rfl).2⟩
  · by_cases h2 : n < 4096
    · obtain ⟨m, rfl⟩ : ∃ m : Nat, n = (m : Int) := ⟨n.toNat, by omega⟩
      have h3 : (m : Int) < 4096 := h2
      have h4 : (0 : Int) < m := by omega
      have h5 : ¬ (m : Int) ≤ 0 := by omega
      have h6 : ¬ 4096 ≤ (m : Int) := by omega
      have h7 : ¬ 4096 < (m : Int) := by omega
      have h8 : ¬ (m : Int) < 0 := by omega
      obtain ⟨C, hC1, hC2, hmk⟩ := made_blk m (by omega)
      have HM : Hid ((m : Int) = max 0 (min 4096 (m : Int))) := Lib.hid (by omega)
      have HC := Lib.hid hC2
      have HL : Hid (m ≤ 4096) := Lib.hid (by omega)
      clear hC1 hC2
      go_enter Try.func8, Try.ntmps8
      go_wp2_with fail
      go_ret
      exact ⟨_, _, m, HM.out, rfl, (new_at HL.out HC.out rfl).1, fun k hk => hk.1, (new_at HL.out HC.out rfl).2⟩
    · obtain ⟨C, hC1, hC2, hmk⟩ := made_blk 4096 (by omega)
      have hmk2 : ∀ w, (Instr.makeSlice 50 (.int .i64 4096) (.int .i64 4096)).run Try.prog w = .ok (.slice (some ⟨w.heap.size, 0, none⟩) 4096 4096) (w.alloc (.cells C 58)) := hmk
      have HM : Hid (((4096 : Nat) : Int) = max 0 (min 4096 n)) := Lib.hid (by omega)
      have HC := Lib.hid hC2
      have h3 : 4096 ≤ n := by omega
      have h4 : ¬ n < 4096 := h2
      clear hmk hC1 hC2
      go_enter Try.func8, Try.ntmps8
      go_wp2_with fail
      go_ret
      exact ⟨_, _, 4096, HM.out, rfl, (new_at (by omega) HC.out rfl).1, fun k hk => hk.1, (new_at (m := 4096) (by omega) HC.out rfl).2⟩
theorem asked_any (s : Dk) (X : Nat → Prop) (g : Nat) (i : Int) (w : World) (h : DAt w X g s) : Calls Try.prog 27 #[.pointer (some ⟨g, 0, none⟩), .int .i64 i] w fun e w' => e = .returned (.int .i64 (s.ask i)) ∧ w = w' := by
  obtain ⟨ad, cb, v, ap, h⟩ := h
  have h4 := blk_cell h.hd 4 _ rfl
  have h0 := blk_cell h.hd 0 _ rfl
  clear h
  cases ho : s.off with
  | true =>
    have e : s.ask i = 140 := by unfold Dk.ask; rw [if_pos ho]
    rw [e]
    rw [ho] at h4
    go_enter Try.func27, Try.ntmps27
    go_wp2_with fail
    go_ret
    exact ⟨rfl, rfl⟩
  | false =>
    rw [ho] at h4
    have hn : ¬ s.off = true := by rw [ho]; decide
    by_cases h1 : i < 0
    · have e : s.ask i = 2 := by unfold Dk.ask; rw [if_neg hn, if_pos (.inl h1)]
      rw [e]
      clear hn
      have d1 : decide (i < 0) = true := decide_eq_true h1
      go_enter Try.func27, Try.ntmps27
      go_wp2_with fail
      go_ret
      exact ⟨rfl, rfl⟩
    · have d1 : decide (i < 0) = false := decide_eq_false h1
      by_cases h2 : (s.bl.length : Int) ≤ i
      · have e : s.ask i = 2 := by unfold Dk.ask; rw [if_neg hn, if_pos (.inr h2)]
        rw [e]
        clear hn
        have d2 : decide (i ≥ (s.bl.length : Int)) = true := decide_eq_true h2
        have d3 : decide ((s.bl.length : Int) ≤ i) = true := decide_eq_true h2
        go_enter Try.func27, Try.ntmps27
        go_wp2_with fail
        go_ret
        exact ⟨rfl, rfl⟩
      · have e : s.ask i = 0 := by unfold Dk.ask; rw [if_neg hn, if_neg (by omega)]
        rw [e]
        clear hn
        have d2 : decide (i ≥ (s.bl.length : Int)) = false := decide_eq_false (by omega)
        have d3 : decide ((s.bl.length : Int) ≤ i) = false := decide_eq_false h2
        go_enter Try.func27, Try.ntmps27
        go_wp2_with fail
        go_ret
        exact ⟨rfl, rfl⟩

/-! ### what a store into the disk's own block does -/
theorem DkAt.store {w : World} {X : Nat → Prop} {g : Nat} {s s' : Dk} {ad : Option Addr} {cb : Nat} {v : Value} {ap ap' : Option Addr} (h : DkAt w X g s ad cb v ap) {w' : World} (ho : Only g w w')
    (hhd : w'.heap[g]? = some (.cells #[.slice ad s.bl.length cb, v, .int .i64 s'.st, .pointer ap', .bool s'.off] 54 (0, 0))) (hb : s'.bl = s.bl) (hop : s'.op = s.op) (hok : ∀ n, s'.ar = some n → 0 ≤ n ∧ n ≤ 9223372036854775807)
    {X' : Nat → Prop} (hX : ∀ k, X k → X' k) (hlt : ∀ k, X' k → k < w'.heap.size) (har : ArAt w' X' ap' s'.ar) : DkAt w' X' g s' ad cb v ap' := by
  have hne : ∀ (k : Nat) (C : Array Value) (t : TypeId), w.heap[k]? = some (.cells C t (0, 0)) → t ≠ 54 → w'.heap[k]? = w.heap[k]? := fun k C t hk ht => ho.block k (blk_lt hk) (ne_type hk h.hd ht)
  refine ⟨by rw [hb]; exact hhd, hX g h.xg, hlt, ⟨by rw [hb]; exact h.ok.blk, by rw [hb, hop]; exact h.ok.opn, by rw [hb]; exact h.ok.n, hok⟩, ?_, ?_, fun q hq => hX q (h.ox q hq), by rw [hop]; exact h.nil, har⟩
  · rw [hb]
    refine h.bl.imp id ?_
    rintro ⟨kb, e, hx, hbl⟩
    have hbl2 := hbl
    unfold BlAt at hbl2
    obtain ⟨⟨C, hC⟩, _⟩ := hbl2
    exact ⟨kb, e, hX kb hx, hbl.keep (hne kb C _ hC (by decide))⟩
  · rw [hop]
    refine own_keep h.op (fun q hq => ?_)
    rcases h.op.2 with ⟨e, _⟩ | ⟨g', cap, cur, e, _, hc, _⟩
    · rw [e] at hq; cases hq
    · rw [e] at hq; cases hq
      exact hne _ _ _ hc (by decide)
theorem ArAt.only {w w' : World} {X : Nat → Prop} {g : Nat} {ap : Option Addr} {r : Option Int} (h : ArAt w X ap r) (ho : Only g w w') {C : Array Value} {t : TypeId} (hg : w.heap[g]? = some (.cells C t (0, 0))) (ht : t ≠ 3) : ArAt w' X ap r := by
  unfold ArAt at *
  cases r with
  | none => exact h
  | some n =>
    obtain ⟨ka, e, hx, hc⟩ := h
    exact ⟨ka, e, hx, ho.keep (ne_type hc hg (fun e => ht e.symm)) hc⟩
theorem off_any (s : Dk) (X : Nat → Prop) (g : Nat) (w : World) (h : DAt w X g s) : Calls Try.prog 10 #[.pointer (some ⟨g, 0, none⟩)] w fun e w' => e = .returned (.bool s.off) ∧ w = w' := by
  obtain ⟨ad, cb, v, ap, h⟩ := h
  have h4 := blk_cell h.hd 4 _ rfl
  clear h
  go_enter Try.func10, Try.ntmps10
  go_wp2_with fail
  go_ret
  exact ⟨rfl, rfl⟩
theorem crash_any (s : Dk) (X : Nat → Prop) (g : Nat) (w : World) (h : DAt w X g s) : Calls Try.prog 13 #[.pointer (some ⟨g, 0, none⟩)] w fun e w' => e = .returned (.tuple #[]) ∧ DAt w' X g s.crash ∧ Only g w w' := by
  obtain ⟨ad, cb, v, ap, h⟩ := h
  have h3 := blk_cell h.hd 3 _ rfl
  have h4 := blk_cell h.hd 4 _ rfl
  have hf := blk_free h.hd
  have H := Lib.hid h
  clear h
  go_enter Try.func13, Try.ntmps13
  go_wp2_with fail
  go_end0
  have ho : Only g w ((w.setCell ⟨g, 3, none⟩ (.pointer none)).setCell ⟨g, 4, none⟩ (.bool true)) := ((Only.refl g w).setCell (p := ⟨g, 3, none⟩) rfl _).setCell (p := ⟨g, 4, none⟩) rfl _
  exact ⟨rfl, ⟨_, _, _, _, H.out.store (s' := s.crash) ho (blk_set (blk_set H.out.hd 3 _) 4 _) rfl rfl (fun n h => by simp [Dk.crash] at h) (fun k h => h) (fun k h => Nat.lt_of_lt_of_le (H.out.lt k h) ho.size) rfl⟩, ho⟩
theorem fail_any (s : Dk) (X : Nat → Prop) (g : Nat) (n : Int) (w : World) (h : DAt w X g s) (hn : n ≤ 9223372036854775807) : Calls Try.prog 9 #[.pointer (some ⟨g, 0, none⟩), .int .i64 n] w fun e w' => ∃ X', e = .returned (.tuple #[]) ∧ DAt w' X' g (s.fail n) ∧ Gr X X' w.heap.size ∧ Only g w w' := by
  obtain ⟨ad, cb, v, ap, h⟩ := h
  have h3 := blk_cell h.hd 3 _ rfl
  have hf := blk_free h.hd
  have hg := blk_lt h.hd
  have hg2 : ¬ w.heap.size = g := by omega
  have H := Lib.hid h
  clear h
  by_cases h0 : 0 ≤ n
  · have d1 : decide (n ≥ 0) = true := decide_eq_true h0
    have HN := Lib.hid hn
    have H0 := Lib.hid h0
    clear h0 hn
    go_enter Try.func9, Try.ntmps9
    go_wp2_with fail
    go_end0
    have ho : Only g w (((w.setCell ⟨g, 3, none⟩ (.pointer none)).setCell ⟨g, 3, none⟩ (.pointer (some ⟨w.heap.size, 0, none⟩))).alloc (.cells #[.int .i64 n] 3)) := (((Only.refl g w).setCell (p := ⟨g, 3, none⟩) rfl _).setCell (p := ⟨g, 3, none⟩) rfl _).alloc _
    have k0 := blk_keep (below1 _ (.cells #[.int .i64 n] 3)) (blk_set (blk_set H.out.hd 3 (.pointer none)) 3 (.pointer (some ⟨w.heap.size, 0, none⟩)))
    have k1 : (((w.setCell ⟨g, 3, none⟩ (.pointer none)).setCell ⟨g, 3, none⟩ (.pointer (some ⟨w.heap.size, 0, none⟩))).alloc (.cells #[.int .i64 n] 3)).heap[w.heap.size]? = some (.cells #[.int .i64 n] 3) := by
      have := heap_new1 ((w.setCell ⟨g, 3, none⟩ (.pointer none)).setCell ⟨g, 3, none⟩ (.pointer (some ⟨w.heap.size, 0, none⟩))) (.cells #[.int .i64 n] 3)
      simpa using this
    have hs := blk_lt k1
    have e : (s.fail n).ar = some n := by unfold Dk.fail; simp [H0.out]
    refine ⟨fun k => X k ∨ k = w.heap.size, rfl, ⟨_, _, _, _, H.out.store (s' := s.fail n) ho k0 rfl rfl (fun m h => ?_) (fun k h => .inl h) (fun k h => ?_) ?_⟩, fun j hj => hj.imp id (fun h => by omega), ho⟩
    · rw [e] at h; cases h; exact ⟨H0.out, HN.out⟩
    · rcases h with h | h
      · exact Nat.lt_of_lt_of_le (H.out.lt k h) ho.size
      · rw [h]; exact hs
    · rw [e]; exact ⟨w.heap.size, rfl, .inr rfl, k1⟩
  · have d1 : decide (n ≥ 0) = false := decide_eq_false h0
    have H0 := Lib.hid h0
    clear h0 hn
    go_enter Try.func9, Try.ntmps9
    go_wp2_with fail
    go_end0
    have ho : Only g w ((w.setCell ⟨g, 3, none⟩ (.pointer none)).alloc (.cells #[.int .i64 n] 3)) := ((Only.refl g w).setCell (p := ⟨g, 3, none⟩) rfl _).alloc _
    have k0 := blk_keep (below1 _ (.cells #[.int .i64 n] 3)) (blk_set H.out.hd 3 (.pointer none))
    have e : (s.fail n).ar = none := by unfold Dk.fail; simp [H0.out]
    refine ⟨rfl, X, ⟨_, _, _, _, H.out.store (s' := s.fail n) ho k0 rfl rfl (fun m h => ?_) (fun k h => h) (fun k h => ?_) ?_⟩, Gr.refl _ _, ho⟩
    · rw [e] at h; cases h
    · exact Nat.lt_of_lt_of_le (H.out.lt k h) ho.size
    · rw [e]; rfl
end Go.Proofs.Ytncijclhfndniaa
