/-
 Layer 28: readings; the row of stops.
-/
import Derived.Test.YtpohoannggdbjaaMoI
import Derived.Test.YtpohoannggdbjaaIyR
import Derived.Test.YtpohoannggdbjaaMC
namespace Go.Proofs.Ytpohoannggdbjaa
open Go.RowKit
set_option maxRecDepth 100000
theorem iv_el {w : World} {cs : List Value} (h : Rd Try.prog w 49 cs) : ∃ c : Iv, cs = ivC c ∧ IvOk w c := by
 obtain ⟨o, n, r, a, len, cap, l, hc, ho, hn, hr, hl, _, hcm, _, hlc, _⟩ := input_of (c := cs.toArray) h
 exact ⟨⟨o, n, r, a, len, cap, l⟩, congrArg Array.toList hc, ⟨ho, hn, hr⟩, hl, hlc, hcm⟩
theorem ivs_of {w : World} {cs : List Value} (h : Rd Try.prog w 28 cs) : ∃ s : Sl Iv, cs = [s.v] ∧ SlAt 4 ivC w s ∧ ∀ c ∈ s.l, IvOk w c := sl_of (f := ivC) (sz := 4) Try.underlying28 (by kernel_rfl) (by decide) (fun _ => rfl) (fun _ h => iv_el h) h
theorem sh_el {w : World} {cs : List Value} (h : Rd Try.prog w 37 cs) : ∃ c : Sh, cs = shC c ∧ True := by
 obtain ⟨hl, hf⟩ := h.fields (L := [(4, 0), (35, 1)]) (by kernel_rfl) (by kernel_rfl)
 rw [show Try.prog.cellsOf 37 = 3 by kernel_rfl] at hl
 match cs, hl with
 | [x, y, z], _ =>
   have h0 := hf (4, 0) (by simp)
   have h1 := hf (35, 1) (by simp)
   simp only [show Try.prog.cellsOf 4 = 1 by kernel_rfl, show Try.prog.cellsOf 35 = 2 by kernel_rfl] at h0 h1
   obtain ⟨b, hb⟩ := h0.bool Try.underlying4
   obtain ⟨_, hf2⟩ := h1.fields (L := [(32, 0), (33, 1)]) (by kernel_rfl) (by kernel_rfl)
   have g0 := hf2 (32, 0) (by simp)
   have g1 := hf2 (33, 1) (by simp)
   simp only [show Try.prog.cellsOf 32 = 1 by kernel_rfl, show Try.prog.cellsOf 33 = 1 by kernel_rfl] at g0 g1
   obtain ⟨p, hp, wp⟩ := g0.int Try.underlying32
   obtain ⟨q, hq, wq⟩ := g1.int Try.underlying33
   obtain ⟨p, rfl, _⟩ := u64_nat wp
   obtain ⟨q, rfl, _⟩ := u32_nat wq
   simp at hb hp hq
   exact ⟨⟨b, p, q⟩, by rw [hb, hp, hq]; rfl, trivial⟩
theorem shs_of {w : World} {cs : List Value} (h : Rd Try.prog w 29 cs) : ∃ s : Sl Sh, cs = [s.v] ∧ SlAt 3 shC w s ∧ ∀ c ∈ s.l, True := sl_of (f := shC) (sz := 3) Try.underlying29 (by kernel_rfl) (by decide) (fun _ => rfl) (fun _ h => sh_el h) h
def stopSh : Sh := ⟨true, 0, 0⟩
def noSh : Sh := ⟨false, 0, 0⟩
def stopsL (n i : Nat) : List Value := (List.replicate i stopSh).flatMap shC ++ (List.replicate (n - i) noSh).flatMap shC
theorem info_sh3 : (Try.prog.info? 37).map (fun i => (i.zero, i.size, i.bytes)) = some (some (.agg #[.bool false, .int .u64 0, .int .u32 0]), 3, 24) := by kernel_rfl
theorem made_e0 : madeCells (Value.agg #[.bool false, .int .u64 0, .int .u32 0]).cells (0 * 3) = (stopsL 0 0).toArray := by kernel_rfl
theorem made_e1 : madeCells (Value.agg #[.bool false, .int .u64 0, .int .u32 0]).cells (1 * 3) = (stopsL 1 0).toArray := by kernel_rfl
theorem made_e2 : madeCells (Value.agg #[.bool false, .int .u64 0, .int .u32 0]).cells (2 * 3) = (stopsL 2 0).toArray := by kernel_rfl
theorem made_e3 : madeCells (Value.agg #[.bool false, .int .u64 0, .int .u32 0]).cells (3 * 3) = (stopsL 3 0).toArray := by kernel_rfl
theorem made_e4 : madeCells (Value.agg #[.bool false, .int .u64 0, .int .u32 0]).cells (4 * 3) = (stopsL 4 0).toArray := by kernel_rfl
theorem made_e5 : madeCells (Value.agg #[.bool false, .int .u64 0, .int .u32 0]).cells (5 * 3) = (stopsL 5 0).toArray := by kernel_rfl
theorem made_e6 : madeCells (Value.agg #[.bool false, .int .u64 0, .int .u32 0]).cells (6 * 3) = (stopsL 6 0).toArray := by kernel_rfl
theorem made_e7 : madeCells (Value.agg #[.bool false, .int .u64 0, .int .u32 0]).cells (7 * 3) = (stopsL 7 0).toArray := by kernel_rfl
theorem made_e8 : madeCells (Value.agg #[.bool false, .int .u64 0, .int .u32 0]).cells (8 * 3) = (stopsL 8 0).toArray := by kernel_rfl
theorem made_e9 : madeCells (Value.agg #[.bool false, .int .u64 0, .int .u32 0]).cells (9 * 3) = (stopsL 9 0).toArray := by kernel_rfl
theorem made_e10 : madeCells (Value.agg #[.bool false, .int .u64 0, .int .u32 0]).cells (10 * 3) = (stopsL 10 0).toArray := by kernel_rfl
theorem made_eq (n : Nat) (h : n ≤ 10) : madeCells (Value.agg #[.bool false, .int .u64 0, .int .u32 0]).cells (n * 3) = (stopsL n 0).toArray := by
 have hn : n = 0 ∨ n = 1 ∨ n = 2 ∨ n = 3 ∨ n = 4 ∨ n = 5 ∨ n = 6 ∨ n = 7 ∨ n = 8 ∨ n = 9 ∨ n = 10 := by omega
 rcases hn with rfl | rfl | rfl | rfl | rfl | rfl | rfl | rfl | rfl | rfl | rfl
 ·exact made_e0
 ·exact made_e1
 ·exact made_e2
 ·exact made_e3
 ·exact made_e4
 ·exact made_e5
 ·exact made_e6
 ·exact made_e7
 ·exact made_e8
 ·exact made_e9
 ·exact made_e10
theorem made_sh (n : Nat) (h : n ≤ 10) (w : World) : (Instr.makeSlice 29 (.int .i64 (n : Int)) (.int .i64 (n : Int))).run Try.prog w = .ok (.slice (some ⟨w.heap.size, 0, none⟩) n n) (w.alloc (.cells (stopsL n 0).toArray 37)) := by
 obtain ⟨i0, hi, hz0, hz1, hz2⟩ := info_parts info_sh3
 have := run_makeSlice (P := Try.prog) (w := w) 29 37 i0 (.agg #[.bool false, .int .u64 0, .int .u32 0]) Try.underlying29 hi hz0 .i64 .i64 n n (by omega) (by omega) (by rw [hz1]; omega) (by rw [hz2]; omega) (by omega)
 rw [hz1, Int.toNat_natCast] at this
 have e := made_eq n h
 rw [e] at this
 exact this
theorem sh3_len (c : Sh) : (shC c).length = 3 := rfl
theorem rep_len (i : Nat) (s : Sh) : ((List.replicate i s).flatMap shC).length = i * 3 := by
 induction i with
 | zero => rfl
 | succ i ih => rw [List.replicate_succ, List.flatMap_cons, List.length_append, ih]; show 3 + i * 3 = _; omega
theorem stops_len (n i : Nat) (h : i ≤ n) : (stopsL n i).length = n * 3 := by
 unfold stopsL
 rw [List.length_append, rep_len, rep_len]; omega
theorem stops_set {n i : Nat} (h : i < n) : (stopsL n i).toArray.setIfInBounds (i * 3) (.bool true) = (stopsL n (i + 1)).toArray := by
 obtain ⟨d, rfl⟩ : ∃ d, n = i + 1 + d := ⟨n - (i + 1), by omega⟩
 rw [List.setIfInBounds_toArray]
 congr 1
 unfold stopsL
 rw [show i + 1 + d - i = d + 1 by omega, show i + 1 + d - (i + 1) = d by omega, List.set_append, if_neg (by rw [rep_len]; omega), rep_len, Nat.sub_self, List.replicate_succ, List.flatMap_cons, List.replicate_succ', List.flatMap_append, List.flatMap_cons, List.flatMap_nil, List.append_nil, List.append_assoc]
 rfl
theorem stops_row {w : World} {g n : Nat} {t : TypeId} {fr : Nat × Nat} (h : w.heap[g]? = some (.cells (stopsL n n).toArray t fr)) : RowAt 3 shC w (some ⟨g, 0, none⟩) (List.replicate n stopSh) := by
 refine row_blk sh3_len h ?_
 show stopsL n n = _
 unfold stopsL
 rw [Nat.sub_self]
 exact List.append_nil _
theorem stops_cell {n i : Nat} (h : i < n) : (stopsL n i).toArray[i * 3]? = some (.bool false) := by
 obtain ⟨d, rfl⟩ : ∃ d, n = i + 1 + d := ⟨n - (i + 1), by omega⟩
 rw [List.getElem?_toArray]
 unfold stopsL
 rw [show i + 1 + d - i = d + 1 by omega, List.getElem?_append_right (by rw [rep_len]; omega), rep_len, Nat.sub_self]
 rfl
/-- nothing but stops is explained, if there is an interlocking -/
theorem expl_stops (L : Lay) (X : List Iv) : explS L X (List.replicate X.length stopSh) = decide ((checkS L).1 = 0) := by
 unfold explS
 rw [List.length_replicate, decide_eq_true (rfl : X.length = X.length), Bool.true_and]
 cases hc : decide ((checkS L).1 = 0) with
 | false => rfl
 | true =>
   rw [Bool.true_and, Bool.not_eq_true']
   have h := reach_stop (T := tbL L) (X := X) (Y := List.replicate X.length stopSh) (fun y hy => by rw [List.eq_of_mem_replicate hy]; rfl) X.length
   cases he : (reachN (tbL L) X (List.replicate X.length stopSh) X.length).isEmpty with
   | false => rfl
   | true => exact absurd (List.isEmpty_iff.1 he) h
/-- a beginning of what is explained is explained -/
theorem expl_take {L : Lay} {X : List Iv} {Y : List Sh} (h : explS L X Y = true) {k : Nat} (hk : k ≤ X.length) : X.length = Y.length ∧ explS L (X.take k) (Y.take k) = true := by
 unfold explS at h
 rw [Bool.and_eq_true, Bool.and_eq_true, decide_eq_true_eq, decide_eq_true_eq, Bool.not_eq_true', ] at h
 obtain ⟨h1, h2, h3⟩ := h
 refine ⟨h2, ?_⟩
 have hl : (X.take k).length = k := by rw [List.length_take]; omega
 have hl2 : (Y.take k).length = k := by rw [List.length_take]; omega
 rw [expl_is h1 (hl.trans hl2.symm), hl, reach_take k (Nat.le_refl _), Bool.not_eq_true']
 obtain ⟨d, hd⟩ : ∃ d, X.length = k + d := ⟨X.length - k, by omega⟩
 rw [hd] at h3
 have h4 := reach_le (T := tbL L) (X := X) (Y := Y) (k := k) d (fun e => by rw [e] at h3; cases h3)
 cases he : (reachN (tbL L) X Y k).isEmpty with
 | false => rfl
 | true => exact absurd (List.isEmpty_iff.1 he) h4
end Go.Proofs.Ytpohoannggdbjaa
