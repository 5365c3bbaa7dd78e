/-
  Layer 29: SafetyKnown.
-/
import Derived.Test.YthnpekbmaapgnaaSaS
import Derived.Test.YthnpekbmaapgnaaCoW
import Derived.Laws.BytesString
namespace Go.Proofs.Ythnpekbmaapgnaa
open Go.RowKit
set_option maxRecDepth 100000
theorem kn_cycle (L : Lay) (o n r p q : Nat) (V : Value) (ho : o < 18446744073709551616) (hp : p < 18446744073709551616) (hq : q < 4294967296) (hn : n < 4294967296) (hr : r < 4294967296) (w : World) (hL : LayAt w L) (hV : (Value.agg #[L.se.v, L.po.v, L.sg.v, L.rt.v]) = V) : Calls Try.prog 3 #[V, .agg #[.int .u64 (o : Int), .int .u32 (n : Int), .int .u32 (r : Int), .slice none 0 0], .agg #[.int .u64 (p : Int), .int .u32 (q : Int)]] w fun e w' => e = .returned (.bool true) ∧ Below w.heap.size w w' := hV ▸ safetyCycle_is L o n r p q none 0 0 ho hp hq hn hr w hL
theorem kn_less (L : Lay) (o n r p q f : Nat) (V : Value) (ho : o < 18446744073709551616) (hp : p < 18446744073709551616) (hf : f < 18446744073709551616) (hq : q < 4294967296) (hn : n < 4294967296) (hr : r < 4294967296) (w : World) (hL : LayAt w L) (hV : (Value.agg #[L.se.v, L.po.v, L.sg.v, L.rt.v]) = V) : Calls Try.prog 4 #[V, .agg #[.int .u64 (o : Int), .int .u32 (n : Int), .int .u32 (r : Int), .slice none 0 0], .agg #[.int .u64 (p : Int), .int .u32 (q : Int)], .int .u64 (f : Int)] w fun e w' => e = .returned (.bool true) ∧ Below w.heap.size w w' := hV ▸ safetyLess_is L o n r p q f none 0 0 ho hp hf hq hn hr w hL
theorem kn_row (L : Lay) (X : List Ip) (Y : List Op) (xa ya : Option Addr) (m n xc yc : Nat) (V : Value) (hX : ∀ x ∈ X, x.ok) (hY : ∀ y ∈ Y, y.ok) (hXm : X.length = m) (hYn : Y.length = n) (w : World) (hL : LayAt w L) (hx : RowAt 4 ipC w xa X) (hy : RowAt 2 opC w ya Y) (hV : (Value.agg #[L.se.v, L.po.v, L.sg.v, L.rt.v]) = V) : Calls Try.prog 5 #[V, .slice xa m xc, .slice ya n yc] w fun e w' => e = .returned (.bool true) ∧ Below w.heap.size w w' := hV ▸ safetyRow_is L X Y xa ya m n xc yc hX hY hXm hYn w hL hx hy
/-- the yard whose first route has no path -/
def badL (b : Nat) : Lay := knM b ({ yR1 b with pa := ⟨none, 0, []⟩ } :: (yRs b).tail)
theorem bad_v (b : Nat) : (Value.agg #[(badL b).se.v, (badL b).po.v, (badL b).sg.v, (badL b).rt.v]) = .agg #[.slice (some ⟨b + 1, 0, none⟩) 6 6, .slice (some ⟨b + 2, 0, none⟩) 2 2, .slice (some ⟨b + 3, 0, none⟩) 3 3, .slice (some ⟨b + 16, 0, none⟩) 5 5] := kj_v b _ rfl
theorem bad_at {w w2 : World} {b : Nat} (hy : YardAt w b) (ho : Only (b + 16) w w2) (hq : w2.heap[b + 16]? = some (.cells ((yRv b).setIfInBounds 2 (.slice none 0 0)) 54)) : LayAt w2 (badL b) := by
  have hx : ∀ i, i < 16 → ¬ (fun x => x = b + 16) (b + i) := fun i hi e => by dsimp only at e; omega
  have ya : ∀ i o, i < 16 → (yardO b)[i]? = some o → w2.heap[b + i]? = some o := fun i o h2 h3 => ho.keep (by omega) (hy i o h3)
  have wx : WX (fun x => x = b + 16) w w2 := WX.of_only ho rfl
  refine ⟨sl_blk str_len (ya 1 _ (by decide) rfl) rfl rfl (by decide), sl_blk pt_len (ya 2 _ (by decide) rfl) rfl rfl (by decide), sl_blk pt_len (ya 3 _ (by decide) rfl) rfl rfl (by decide), sl_blk rt_len hq rfl rfl (by decide), yS_ok, yP_ok, yG_ok, fun x hm => ?_⟩
  have hm : x ∈ ({ yR1 b with pa := ⟨none, 0, []⟩ } :: (yRs b).tail : List Rt) := hm
  simp only [yRs, List.tail_cons, List.mem_cons, List.not_mem_nil, or_false] at hm
  rcases hm with rfl | rfl | rfl | rfl | rfl
  · have h := ((yR1_at hy hx).step wx).at_
    exact ⟨h.nm, sl_none, h.po, h.ov, h.fl⟩
  · exact ((yR2_at hy hx).step wx).at_
  · exact ((yR3_at hy hx).step wx).at_
  · exact ((yR4_at hy hx).step wx).at_
  · exact ((yR5_at hy hx).step wx).at_
theorem info_pt : (Try.prog.info? 57).map (fun i => (i.zero, i.size, i.bytes)) = some (some (.agg #[.string ByteArray.empty, .int .i64 0]), 2, 24) := by kernel_rfl
theorem made32p : ∃ C : Array Value, C.toList = (List.replicate 32 ((ByteArray.empty, 0) : BA × Int)).flatMap ptC ∧ ∀ w, (Instr.makeSlice 23 (.int .i64 32) (.int .i64 32)).run Try.prog w = .ok (.slice (some ⟨w.heap.size, 0, none⟩) 32 32) (w.alloc (.cells C 57)) := by
  obtain ⟨i0, hi, hz0, hz1, hz2⟩ := info_parts info_pt
  refine ⟨madeCells (Value.agg #[.string ByteArray.empty, .int .i64 0]).cells (32 * 2), by kernel_rfl, fun w => ?_⟩
  have := run_makeSlice (P := Try.prog) (w := w) 23 57 i0 (.agg #[.string ByteArray.empty, .int .i64 0]) Try.underlying23 hi hz0 .i64 .i64 32 32 (by omega) (by omega) (by rw [hz1]; decide) (by rw [hz2]; decide) (by omega)
  rw [hz1] at this
  exact this
theorem name_sum (x y : Int) : ∃ s t : BA, s.size = 2 ∧ t.size ≤ maxLen ∧ (∀ w : World, (convert 55 9 (.slice (some ⟨w.heap.size, 0, none⟩) 2 2)).run Try.prog (w.alloc (.cells #[.int .u8 x, .int .u8 y] 5)) = .ok (.string s) (w.alloc (.cells #[.int .u8 x, .int .u8 y] 5))) ∧ (⟨#[80]⟩ : BA) ++ s = t := by
  refine ⟨(ByteArray.empty.push (UInt8.ofNat x.toNat)).push (UInt8.ofNat y.toNat), _, rfl, ?_, fun w => ?_, rfl⟩
  · rw [ByteArray.size_append]
    show 1 + 2 ≤ maxLen
    decide
  · rw [run_convert_bytes_string _ _ _ 5 _ _ _ Try.underlying55 Try.underlying5 Try.underlying9]
    have hq := alloc1 w (.cells #[.int .u8 x, .int .u8 y] 5) (Below.refl _ _)
    have := run_loadCells_list (P := Try.prog) (w := w.alloc (.cells #[.int .u8 x, .int .u8 y] 5)) ⟨w.heap.size, 0, none⟩ [.int .u8 x, .int .u8 y] (fun j v hv => by
      match j, hv with
      | 0, hv => simp at hv; subst hv; exact blk_cell hq 0 _ rfl
      | 1, hv => simp at hv; subst hv; exact blk_cell hq 1 _ rfl)
    exact run_bytesToString _ _ 2 2 [x, y] this
theorem flat_set {P : List (BA × Int)} {i : Nat} {p : BA × Int} {t : BA} (h : P[i]? = some p) : (P.flatMap ptC).set (i * 2) (.string t) = (P.set i (t, p.2)).flatMap ptC := by
  induction P generalizing i with
  | nil => simp at h
  | cons x P ih =>
    cases i with
    | zero => simp at h; subst h; rfl
    | succ i =>
      simp only [List.getElem?_cons_succ] at h
      rw [show (i + 1) * 2 = i * 2 + 1 + 1 by omega, List.set_cons_succ, List.flatMap_cons, List.flatMap_cons, ← ih h]
      rfl
def bigL (gs gp : Nat) (P : List (BA × Int)) : Lay := ⟨⟨some ⟨gs, 0, none⟩, 1, [⟨#[97]⟩]⟩, ⟨some ⟨gp, 0, none⟩, 32, P⟩, ⟨none, 0, []⟩, ⟨none, 0, []⟩⟩
theorem big_at {w : World} {gs gp : Nat} {cs : Array Value} {P : List (BA × Int)} (hs : w.heap[gs]? = some (.cells #[.string ⟨#[97]⟩] 9)) (hp : w.heap[gp]? = some (.cells cs 57)) (hcs : cs.toList = P.flatMap ptC) (hP : P.length = 32) (hn : ∀ p ∈ P, p.1.size ≤ maxLen) : LayAt w (bigL gs gp P) :=
  ⟨sl_blk str_len hs rfl rfl (by decide), sl_blk pt_len hp hcs hP (by decide), sl_none, sl_none, fun s hs => by
    have hs : s ∈ [(⟨#[97]⟩ : BA)] := hs
    rw [List.mem_singleton.1 hs]; decide, hn, fun _ h => (by cases h), fun _ h => (by cases h)⟩
theorem big_v (gs gp : Nat) (P : List (BA × Int)) (h : P.length = 32) : (Value.agg #[(bigL gs gp P).se.v, (bigL gs gp P).po.v, (bigL gs gp P).sg.v, (bigL gs gp P).rt.v]) = .agg #[.slice (some ⟨gs, 0, none⟩) 1 1, .slice (some ⟨gp, 0, none⟩) 32 32, .slice none 0 0, .slice none 0 0] := by
  show Value.agg #[_, Sl.v ⟨_, 32, P⟩, _, _] = _
  rw [slv2 h]
  rfl
theorem info_ip : (Try.prog.info? 32).map (fun i => (i.zero, i.size, i.bytes)) = some (some (.agg #[.int .u64 0, .int .u32 0, .int .u32 0, .slice none 0 0]), 4, 40) := by kernel_rfl
theorem info_op : (Try.prog.info? 34).map (fun i => (i.zero, i.size, i.bytes)) = some (some (.agg #[.int .u64 0, .int .u32 0]), 2, 16) := by kernel_rfl
theorem made3i : ∀ w, (Instr.makeSlice 44 (.int .i64 3) (.int .i64 3)).run Try.prog w = .ok (.slice (some ⟨w.heap.size, 0, none⟩) 3 3) (w.alloc (.cells #[.int .u64 0, .int .u32 0, .int .u32 0, .slice none 0 0, .int .u64 0, .int .u32 0, .int .u32 0, .slice none 0 0, .int .u64 0, .int .u32 0, .int .u32 0, .slice none 0 0] 32)) := by
  obtain ⟨i0, hi, hz0, hz1, hz2⟩ := info_parts info_ip
  intro w
  have := run_makeSlice (P := Try.prog) (w := w) 44 32 i0 (.agg #[.int .u64 0, .int .u32 0, .int .u32 0, .slice none 0 0]) Try.underlying44 hi hz0 .i64 .i64 3 3 (by omega) (by omega) (by rw [hz1]; decide) (by rw [hz2]; decide) (by omega)
  rw [hz1, show madeCells (Value.agg #[.int .u64 0, .int .u32 0, .int .u32 0, .slice none 0 0]).cells (Int.toNat 3 * 4) = #[.int .u64 0, .int .u32 0, .int .u32 0, .slice none 0 0, .int .u64 0, .int .u32 0, .int .u32 0, .slice none 0 0, .int .u64 0, .int .u32 0, .int .u32 0, .slice none 0 0] by kernel_rfl] at this
  exact this
theorem made2o : ∀ w, (Instr.makeSlice 45 (.int .i64 2) (.int .i64 2)).run Try.prog w = .ok (.slice (some ⟨w.heap.size, 0, none⟩) 2 2) (w.alloc (.cells #[.int .u64 0, .int .u32 0, .int .u64 0, .int .u32 0] 34)) := by
  obtain ⟨i0, hi, hz0, hz1, hz2⟩ := info_parts info_op
  intro w
  have := run_makeSlice (P := Try.prog) (w := w) 45 34 i0 (.agg #[.int .u64 0, .int .u32 0]) Try.underlying45 hi hz0 .i64 .i64 2 2 (by omega) (by omega) (by rw [hz1]; decide) (by rw [hz2]; decide) (by omega)
  rw [hz1, show madeCells (Value.agg #[.int .u64 0, .int .u32 0]).cells (Int.toNat 2 * 2) = #[.int .u64 0, .int .u32 0, .int .u64 0, .int .u32 0] by kernel_rfl] at this
  exact this
theorem ip_zero : ∀ x ∈ [(⟨0, 0, 0, none, 0, 0⟩ : Ip), ⟨0, 0, 0, none, 0, 0⟩, ⟨0, 0, 0, none, 0, 0⟩], x.ok := by
  intro x hx
  simp only [List.mem_cons, List.not_mem_nil, or_false] at hx
  rcases hx with rfl | rfl | rfl <;> exact ⟨by decide, by decide, by decide⟩
theorem op_zero : ∀ x ∈ [(⟨0, 0⟩ : Op), ⟨1, 0⟩], x.ok := by
  intro x hx
  simp only [List.mem_cons, List.not_mem_nil, or_false] at hx
  rcases hx with rfl | rfl <;> exact ⟨by decide, by decide⟩
theorem op_zero2 : ∀ x ∈ [(⟨0, 0⟩ : Op), ⟨0, 0⟩], x.ok := by
  intro x hx
  simp only [List.mem_cons, List.not_mem_nil, or_false] at hx
  rcases hx with rfl | rfl <;> exact ⟨by decide, by decide⟩
theorem yard_v (b : Nat) : (Value.agg #[(yardL b).se.v, (yardL b).po.v, (yardL b).sg.v, (yardL b).rt.v]) = .agg #[.slice (some ⟨b + 1, 0, none⟩) 6 6, .slice (some ⟨b + 2, 0, none⟩) 2 2, .slice (some ⟨b + 3, 0, none⟩) 3 3, .slice (some ⟨b + 16, 0, none⟩) 5 5] := rfl
attribute [local irreducible] ixF Sl.v pairS hasBit mayS Rt.tr Rt.nd checkS pw claI occS lieS turS shI shR withBit outS cycS conflictS
attribute [local irreducible] weightS fstS cycI

set_option maxHeartbeats 20000000 in
theorem walk_SafetyKnown (w : World) : Calls Try.prog 6 #[] w fun e w' => e = .returned (.bool true) ∧ Below w.heap.size w w' := by
  go_enter Try.func6, Try.ntmps6
  go_wp2_with fail
  refine (yard_is w).mono ?_
  rintro e wy ⟨b, hbb, rfl, hy, hby⟩
  have HYA := Lib.hid hy
  have HBY := Lib.hid hby
  clear hy hby hbb
  go_upto_region 2 with fail
  have hbw := below1 wy (.cells #[.slice (some ⟨b + 1, 0, none⟩) 6 6, .slice (some ⟨b + 2, 0, none⟩) 2 2, .slice (some ⟨b + 3, 0, none⟩) 3 3, .slice (some ⟨b + 16, 0, none⟩) 5 5] 27)
  have hq := alloc1 wy (.cells #[.slice (some ⟨b + 1, 0, none⟩) 6 6, .slice (some ⟨b + 2, 0, none⟩) 2 2, .slice (some ⟨b + 3, 0, none⟩) 3 3, .slice (some ⟨b + 16, 0, none⟩) 5 5] 27) (Below.refl _ _)
  obtain ⟨V, hV⟩ : ∃ V, V = wy.alloc (.cells #[.slice (some ⟨b + 1, 0, none⟩) 6 6, .slice (some ⟨b + 2, 0, none⟩) 2 2, .slice (some ⟨b + 3, 0, none⟩) 3 3, .slice (some ⟨b + 16, 0, none⟩) 5 5] 27) := ⟨_, rfl⟩
  rw [← hV] at hbw hq ⊢
  obtain ⟨g1, hg1⟩ : ∃ g, g = wy.heap.size := ⟨_, rfl⟩
  rw [← hg1] at hq ⊢
  have HLV : Hid (LayAt V (yardL b)) := Lib.hid (yard_at (HYA.out.below hbw))
  have HB0 := Lib.hid (below_on HBY.out hbw)
  have HQ := Lib.hid hq
  clear hbw hq hV hg1 HYA HBY
  have HC : Hid (∀ (o n r p q : Nat), o < 18446744073709551616 → p < 18446744073709551616 → q < 4294967296 → n < 4294967296 → r < 4294967296 → ∀ W, Below V.heap.size V W → Calls Try.prog 3 #[.agg #[.slice (some ⟨b + 1, 0, none⟩) 6 6, .slice (some ⟨b + 2, 0, none⟩) 2 2, .slice (some ⟨b + 3, 0, none⟩) 3 3, .slice (some ⟨b + 16, 0, none⟩) 5 5], .agg #[.int .u64 (o : Int), .int .u32 (n : Int), .int .u32 (r : Int), .slice none 0 0], .agg #[.int .u64 (p : Int), .int .u32 (q : Int)]] W fun e w' => e = .returned (.bool true) ∧ Below W.heap.size W w') := Lib.hid (fun o n r p q ho hp hq hn hr W hW => kn_cycle (yardL b) o n r p q _ ho hp hq hn hr W (HLV.out.below hW) (yard_v b))
  have HL : Hid (∀ (o n r p q f : Nat), o < 18446744073709551616 → p < 18446744073709551616 → f < 18446744073709551616 → q < 4294967296 → n < 4294967296 → r < 4294967296 → ∀ W, Below V.heap.size V W → Calls Try.prog 4 #[.agg #[.slice (some ⟨b + 1, 0, none⟩) 6 6, .slice (some ⟨b + 2, 0, none⟩) 2 2, .slice (some ⟨b + 3, 0, none⟩) 3 3, .slice (some ⟨b + 16, 0, none⟩) 5 5], .agg #[.int .u64 (o : Int), .int .u32 (n : Int), .int .u32 (r : Int), .slice none 0 0], .agg #[.int .u64 (p : Int), .int .u32 (q : Int)], .int .u64 (f : Int)] W fun e w' => e = .returned (.bool true) ∧ Below W.heap.size W w') := Lib.hid (fun o n r p q f ho hp hf hq hn hr W hW => kn_less (yardL b) o n r p q f _ ho hp hf hq hn hr W (HLV.out.below hW) (yard_v b))
  go_upto_region 3 with fail
  go_loopg [2, 3, 4, 5] 64 (fun g v _ _ _ wr => ∃ k : Nat, k + g = 64 ∧ v = .int .u64 (k : Int) ∧ Below V.heap.size V wr)
  case atStart => exact ⟨0, by omega, rfl, Below.refl _ _⟩
  case round =>
    obtain ⟨k, hk, rfl, hb⟩ := hrel
    have HB := Lib.hid hb
    have HK := Lib.hid hk
    by_cases hlt : k < 64
    · have d2 : (k : Int) < 64 := by omega
      have HLT := Lib.hid hlt
      clear hb hk hlt
      go_wp2_with fail
      go_loopg [3, 4, 5] 8 (fun g v _ _ wq => ∃ n : Nat, n + g = 8 ∧ v = .int .u32 (n : Int) ∧ Below V.heap.size V wq)
      case atStart => exact ⟨0, by omega, rfl, HB.out⟩
      case round =>
        obtain ⟨n, hn, rfl, hb⟩ := hrel
        have HBQ := Lib.hid hb
        have HN := Lib.hid hn
        by_cases hln : n < 8
        · have d3 : (n : Int) < 8 := by omega
          have HLN := Lib.hid hln
          clear hb hn hln
          obtain ⟨o1, ho1⟩ : ∃ x, k * 5 &&& 63 = x := ⟨_, rfl⟩
          obtain ⟨o, ho⟩ : ∃ x, o1 &&& (n * 9) = x := ⟨_, rfl⟩
          obtain ⟨a, ha⟩ : ∃ x, n &&& 3 = x := ⟨_, rfl⟩
          obtain ⟨q, hq⟩ : ∃ x, n / 2 = x := ⟨_, rfl⟩
          obtain ⟨r, hr⟩ : ∃ x, q &&& 3 = x := ⟨_, rfl⟩
          obtain ⟨f, hf⟩ : ∃ x, k * 7 = x := ⟨_, rfl⟩
          have bk : k < 64 := HLT.out
          have bn : n < 8 := HLN.out
          have bo1 : o1 < 64 := by rw [← ho1]; exact Nat.lt_of_le_of_lt Nat.and_le_right (by omega)
          have bo : o < 64 := by rw [← ho]; exact Nat.lt_of_le_of_lt Nat.and_le_left bo1
          have ba : a < 4 := by rw [← ha]; exact Nat.lt_of_le_of_lt Nat.and_le_right (by omega)
          have br : r < 4 := by rw [← hr]; exact Nat.lt_of_le_of_lt Nat.and_le_right (by omega)
          have bq : q < 4 := by omega
          have bf : f < 500 := by omega
          have E1 : Hid (bits .and .u64 ((k : Int) * 5) 63 = (o1 : Int)) := Lib.hid (by rw [show (k : Int) * 5 = ((k * 5 : Nat) : Int) by omega, show (63 : Int) = ((63 : Nat) : Int) from rfl, u64_and_nat _ _ (by omega) (by omega), ho1])
          have E2 : Hid (bits .and .u64 (o1 : Int) ((n : Int) * 9) = (o : Int)) := Lib.hid (by rw [show (n : Int) * 9 = ((n * 9 : Nat) : Int) by omega, u64_and_nat _ _ (by omega) (by omega), ho])
          have E3 : Hid (bits .and .u32 (n : Int) 3 = (a : Int)) := Lib.hid (by rw [show (3 : Int) = ((3 : Nat) : Int) from rfl, u32_and_nat _ _ (by omega) (by omega), ha])
          have E4 : Hid ((n : Int) / 2 = (q : Int)) := Lib.hid (by omega)
          have E5 : Hid (bits .and .u32 (q : Int) 3 = (r : Int)) := Lib.hid (by rw [show (3 : Int) = ((3 : Nat) : Int) from rfl, u32_and_nat _ _ (by omega) (by omega), hr])
          have E6 : Hid ((k : Int) * 7 = (f : Int)) := Lib.hid (by omega)
          have HC1 : Hid (∀ W, Below V.heap.size V W → Calls Try.prog 3 #[.agg #[.slice (some ⟨b + 1, 0, none⟩) 6 6, .slice (some ⟨b + 2, 0, none⟩) 2 2, .slice (some ⟨b + 3, 0, none⟩) 3 3, .slice (some ⟨b + 16, 0, none⟩) 5 5], .agg #[.int .u64 (o : Int), .int .u32 (a : Int), .int .u32 (r : Int), .slice none 0 0], .agg #[.int .u64 (k : Int), .int .u32 (q : Int)]] W fun e w' => e = .returned (.bool true) ∧ Below W.heap.size W w') := Lib.hid (HC.out o a r k q (by omega) (by omega) (by omega) (by omega) (by omega))
          have HC2 : Hid (∀ W, Below V.heap.size V W → Calls Try.prog 3 #[.agg #[.slice (some ⟨b + 1, 0, none⟩) 6 6, .slice (some ⟨b + 2, 0, none⟩) 2 2, .slice (some ⟨b + 3, 0, none⟩) 3 3, .slice (some ⟨b + 16, 0, none⟩) 5 5], .agg #[.int .u64 0, .int .u32 3, .int .u32 0, .slice none 0 0], .agg #[.int .u64 (k : Int), .int .u32 (q : Int)]] W fun e w' => e = .returned (.bool true) ∧ Below W.heap.size W w') := Lib.hid (HC.out 0 3 0 k q (by omega) (by omega) (by omega) (by omega) (by omega))
          have HC3 : Hid (∀ W, Below V.heap.size V W → Calls Try.prog 3 #[.agg #[.slice (some ⟨b + 1, 0, none⟩) 6 6, .slice (some ⟨b + 2, 0, none⟩) 2 2, .slice (some ⟨b + 3, 0, none⟩) 3 3, .slice (some ⟨b + 16, 0, none⟩) 5 5], .agg #[.int .u64 0, .int .u32 2, .int .u32 1, .slice none 0 0], .agg #[.int .u64 (k : Int), .int .u32 (q : Int)]] W fun e w' => e = .returned (.bool true) ∧ Below W.heap.size W w') := Lib.hid (HC.out 0 2 1 k q (by omega) (by omega) (by omega) (by omega) (by omega))
          have HC4 : Hid (∀ W, Below V.heap.size V W → Calls Try.prog 4 #[.agg #[.slice (some ⟨b + 1, 0, none⟩) 6 6, .slice (some ⟨b + 2, 0, none⟩) 2 2, .slice (some ⟨b + 3, 0, none⟩) 3 3, .slice (some ⟨b + 16, 0, none⟩) 5 5], .agg #[.int .u64 (o : Int), .int .u32 (a : Int), .int .u32 (r : Int), .slice none 0 0], .agg #[.int .u64 (k : Int), .int .u32 (q : Int)], .int .u64 (f : Int)] W fun e w' => e = .returned (.bool true) ∧ Below W.heap.size W w') := Lib.hid (HL.out o a r k q f (by omega) (by omega) (by omega) (by omega) (by omega) (by omega))
          clear ho1 ho ha hq hr hf bk bn bo1 bo ba br bq bf
          have e1 := E1.out
          have e2 := E2.out
          have e3 := E3.out
          have e4 := E4.out
          have e5 := E5.out
          go_upto_region 10 with fail
          clear e1 e2 e3 e4 e5
          refine name_last (os := [.cells #[.int .u64 (o : Int), .int .u32 (a : Int), .int .u32 (r : Int), .slice none 0 0] 32, .cells #[.int .u64 (k : Int), .int .u32 (q : Int)] 34]) (w0 := wr) rfl ?_
          intro W hat hbw
          obtain ⟨g4, hg4⟩ : ∃ g, g = wr.heap.size := ⟨_, rfl⟩
          obtain ⟨g5, hg5⟩ : ∃ g, g = g4 + 1 := ⟨_, rfl⟩
          have q0 := hat 0 _ rfl
          have q1 := hat 1 _ rfl
          rw [Nat.add_zero, ← hg4] at q0
          rw [← hg4, ← hg5] at q1
          rw [← hg4, ← hg5]
          have HQI := Lib.hid q0
          have HQO := Lib.hid q1
          have HQL := Lib.hid (blk_keep hbw (blk_keep HBQ.out HQ.out))
          have HBW := Lib.hid (below_on HBQ.out hbw)
          clear hat hbw hg4 hg5 q0 q1
          obtain ⟨l0, l1, l2, l3⟩ := box4c HQL.out
          obtain ⟨i0, i1, i2, i3⟩ := box4c HQI.out
          have n0 := blk_cell HQO.out 0 _ rfl
          have n1 := blk_cell HQO.out 1 _ rfl
          go_wp2_with fail
          refine (HC1.out _ HBW.out).mono ?_
          rintro e w1 ⟨rfl, hb⟩
          have HB1 := Lib.hid (below_on HBW.out hb)
          have HQL1 := Lib.hid (blk_keep hb HQL.out)
          have HQI1 := Lib.hid (blk_keep hb HQI.out)
          have HQO1 := Lib.hid (blk_keep hb HQO.out)
          clear hb l0 l1 l2 l3 i0 i1 i2 i3 n0 n1
          obtain ⟨l0, l1, l2, l3⟩ := box4c HQL1.out
          have n0 := blk_cell HQO1.out 0 _ rfl
          have n1 := blk_cell HQO1.out 1 _ rfl
          go_wp2_with fail
          refine (HC2.out _ HB1.out).mono ?_
          rintro e w2 ⟨rfl, hb⟩
          have HB2 := Lib.hid (below_on HB1.out hb)
          have HQL2 := Lib.hid (blk_keep hb HQL1.out)
          have HQI2 := Lib.hid (blk_keep hb HQI1.out)
          have HQO2 := Lib.hid (blk_keep hb HQO1.out)
          clear hb l0 l1 l2 l3 n0 n1
          obtain ⟨l0, l1, l2, l3⟩ := box4c HQL2.out
          have n0 := blk_cell HQO2.out 0 _ rfl
          have n1 := blk_cell HQO2.out 1 _ rfl
          by_cases h3 : n = 3
          · have e6 := E6.out
            have h31 : (n : Int) = 3 := by omega
            have h32 : ((n : Int) == 3) = true := by rw [h31]; rfl
            clear h3 h31
            go_wp2_with fail
            refine (HC3.out _ HB2.out).mono ?_
            rintro e w3 ⟨rfl, hb⟩
            have HB3 := Lib.hid (below_on HB2.out hb)
            have HQL3 := Lib.hid (blk_keep hb HQL2.out)
            have HQI3 := Lib.hid (blk_keep hb HQI2.out)
            have HQO3 := Lib.hid (blk_keep hb HQO2.out)
            clear hb l0 l1 l2 l3 n0 n1
            obtain ⟨l0, l1, l2, l3⟩ := box4c HQL3.out
            obtain ⟨i0, i1, i2, i3⟩ := box4c HQI3.out
            have n0 := blk_cell HQO3.out 0 _ rfl
            have n1 := blk_cell HQO3.out 1 _ rfl
            go_wp2_with fail
            refine (HC4.out _ HB3.out).mono ?_
            rintro e w4 ⟨rfl, hb⟩
            have HB4 := Lib.hid (below_on HB3.out hb)
            clear hb l0 l1 l2 l3 i0 i1 i2 i3 n0 n1 e6
            go_wp2_with fail
            go_roundg (8 - (n + 1))
            case rel => exact ⟨n + 1, lp_next HN.out HLN.out, by go_num, HB4.out⟩
            case measure => exact lp_less HN.out HLN.out
          · have h32 : ((n : Int) == 3) = false := by rw [beq_eq_false_iff_ne]; omega
            clear h3
            go_wp2_with fail
            refine (HC3.out _ HB2.out).mono ?_
            rintro e w3 ⟨rfl, hb⟩
            have HB3 := Lib.hid (below_on HB2.out hb)
            clear hb l0 l1 l2 l3 n0 n1
            go_wp2_with fail
            go_roundg (8 - (n + 1))
            case rel => exact ⟨n + 1, lp_next HN.out HLN.out, by go_num, HB3.out⟩
            case measure => exact lp_less HN.out HLN.out
        · have d3 : ¬ (n : Int) < 8 := by omega
          clear hb hn hln
          go_wp2_with fail
          go_roundg (64 - (k + 1))
          case rel => exact ⟨k + 1, lp_next HK.out HLT.out, by go_num, HBQ.out⟩
          case measure => exact lp_less HK.out HLT.out
    · have d2 : ¬ (k : Int) < 64 := by omega
      clear hb hk hlt
      go_wp2_with fail
      refine (yard_is wr).mono ?_
      rintro e wz ⟨c, hcc, rfl, hy, hby⟩
      have HYA := Lib.hid hy
      have HBY := Lib.hid (below_on HB.out hby)
      have HCC : Hid (wr.heap.size ≤ c) := Lib.hid (by rw [hcc]; exact Nat.le_refl _)
      have HQz := Lib.hid (blk_keep hby (blk_keep HB.out HQ.out))
      clear hy hby hcc d2
      go_upto_region 13 with fail
      have hbw := below1 wz (.cells #[.slice (some ⟨c + 1, 0, none⟩) 6 6, .slice (some ⟨c + 2, 0, none⟩) 2 2, .slice (some ⟨c + 3, 0, none⟩) 3 3, .slice (some ⟨c + 16, 0, none⟩) 5 5] 27)
      have hq := alloc1 wz (.cells #[.slice (some ⟨c + 1, 0, none⟩) 6 6, .slice (some ⟨c + 2, 0, none⟩) 2 2, .slice (some ⟨c + 3, 0, none⟩) 3 3, .slice (some ⟨c + 16, 0, none⟩) 5 5] 27) (Below.refl _ _)
      obtain ⟨V2, hV2⟩ : ∃ V, V = wz.alloc (.cells #[.slice (some ⟨c + 1, 0, none⟩) 6 6, .slice (some ⟨c + 2, 0, none⟩) 2 2, .slice (some ⟨c + 3, 0, none⟩) 3 3, .slice (some ⟨c + 16, 0, none⟩) 5 5] 27) := ⟨_, rfl⟩
      rw [← hV2] at hbw hq ⊢
      obtain ⟨g6, hg6⟩ : ∃ g, g = wz.heap.size := ⟨_, rfl⟩
      rw [← hg6] at hq ⊢
      have HYA2 := Lib.hid (HYA.out.below hbw)
      have HB2 := Lib.hid (below_on HBY.out hbw)
      have HQ12 := Lib.hid (blk_keep hbw HQz.out)
      have HQ62 := Lib.hid hq
      have HG6 : Hid (c + 17 ≤ g6) := Lib.hid (by rw [hg6]; exact yard_le HYA.out)
      have HG1 : Hid (g1 < c) := Lib.hid (Nat.lt_of_lt_of_le (blk_lt (blk_keep HB.out HQ.out)) HCC.out)
      have HCV : Hid (V.heap.size ≤ c) := Lib.hid (Nat.le_trans HB.out.size HCC.out)
      clear hbw hq hV2 hg6 HYA HBY HQz HCC
      have x3 := blk_cell HQ62.out 3 _ rfl
      have hrow := HYA2.out 16 _ rfl
      have z2 := blk_cell hrow 2 _ rfl
      have f2 := blk_free hrow 2
      have l2 := blk_lt hrow
      clear hrow
      go_upto_region 14 with fail
      clear x3 z2 f2 l2
      refine name_any ?_
      intro V3 hV3
      have ho3 : Only (c + 16) V2 V3 := by rw [hV3]; exact (Only.refl (c + 16) V2).setCell rfl _
      have hrow : V3.heap[c + 16]? = some (.cells ((yRv c).setIfInBounds 2 (.slice none 0 0)) 54) := by rw [hV3]; exact blk_set (HYA2.out 16 _ rfl) 2 _
      have HLB : Hid (LayAt V3 (badL c)) := Lib.hid (bad_at HYA2.out ho3 hrow)
      have HB3 : Hid (Below V.heap.size V V3) := Lib.hid (Only.below HB2.out (Nat.le_trans HCV.out (Nat.le_add_right _ _)) HB2.out.size ho3)
      have HQ13 := Lib.hid (ho3.keep (by have := HG1.out; omega) HQ12.out)
      have HQ63 := Lib.hid (ho3.keep (by have := HG6.out; omega) HQ62.out)
      clear hV3 ho3 hrow HYA2 HB2 HQ12 HQ62 HG6 HG1 HCV
      obtain ⟨CP, hcp, hmk⟩ := made32p
      go_upto_region 15 with fail
      refine name_last (os := [.cells #[.string ⟨#[97]⟩] 9, .cells CP 57, .cells #[.slice (some ⟨V3.heap.size, 0, none⟩) 1 1, .slice (some ⟨V3.heap.size + 1, 0, none⟩) 32 32, .slice none 0 0, .slice none 0 0] 27]) (w0 := V3) rfl ?_
      intro V4 hat hbw
      obtain ⟨gs, hgs⟩ : ∃ g, g = V3.heap.size := ⟨_, rfl⟩
      obtain ⟨gp, hgp⟩ : ∃ g, g = gs + 1 := ⟨_, rfl⟩
      obtain ⟨g7, hg7⟩ : ∃ g, g = gp + 1 := ⟨_, rfl⟩
      have q0 := hat 0 _ rfl
      have q1 := hat 1 _ rfl
      have q2 := hat 2 _ rfl
      rw [Nat.add_zero, ← hgs] at q0
      rw [← hgs, ← hgp] at q1
      rw [← hgs, ← hgp, show gs + 2 = g7 by omega] at q2
      rw [← hgs, ← hgp]
      try rw [← hg7]
      try rw [show gs + 2 = g7 by omega]
      have HQS := Lib.hid q0
      have HQP := Lib.hid q1
      have HQ7 := Lib.hid q2
      have HG7 : Hid (g1 ≠ gp ∧ g6 ≠ gp ∧ gs ≠ gp ∧ g7 ≠ gp ∧ V3.heap.size ≤ gp) := Lib.hid (by have := blk_lt HQ13.out; have := blk_lt HQ63.out; omega)
      have HB4 := Lib.hid hbw
      have HCP := Lib.hid hcp
      clear hat hbw q0 q1 q2 hgs hgp hg7 hmk hcp
      go_upto_region 16 with fail
      go_loopg [8] 32 (fun g v wr => ∃ (i : Nat) (P : List (BA × Int)) (cs : Array Value), i + g = 32 ∧ v = .int .i64 (i : Int) ∧ P.length = 32 ∧ (∀ p ∈ P, p.1.size ≤ maxLen) ∧ wr.heap[gp]? = some (.cells cs 57) ∧ cs.toList = P.flatMap ptC ∧ WX (fun x => x = gp) V4 wr)
      case atStart => exact ⟨0, List.replicate 32 (ByteArray.empty, 0), CP, by omega, rfl, by decide, fun p hp => by rw [(List.mem_replicate.1 hp).2]; decide, HQP.out, HCP.out, WX.refl _ _⟩
      case round =>
        obtain ⟨i, P, cs, hi, rfl, hP, hPs, hqp, hcs, hwx⟩ := hrel
        have HI := Lib.hid hi
        have HP := Lib.hid hP
        have HPS := Lib.hid hPs
        have HQPr := Lib.hid hqp
        have HCS := Lib.hid hcs
        have HWX := Lib.hid hwx
        have HQ7r := Lib.hid (hwx.keep HG7.out.2.2.2.1 HQ7.out)
        by_cases hlt : i < 32
        · have d1 : (0 : Int) ≤ i := by omega
          have d2 : (i : Int) < 32 := by omega
          have HLT := Lib.hid hlt
          have x1 := blk_cell HQ7r.out 1 _ rfl
          obtain ⟨p, hp⟩ : ∃ p, P[i]? = some p := ⟨_, List.getElem?_eq_getElem (by rw [hP]; exact hlt)⟩
          have HPI := Lib.hid hp
          rcases row_blk pt_len hqp hcs with hnil | ⟨xb, off, hxb, hc⟩
          · rw [hnil] at hp; cases hp
          injection hxb with hxb
          injection hxb with h1 h2
          subst h1; subst h2
          have z0 := hc i p hp 0 _ rfl
          rw [Nat.add_zero, Nat.zero_add] at z0
          have f0 := blk_free hqp (i * 2)
          have l0 := blk_lt hqp
          obtain ⟨s, nm, hs, hnm, hcv, hap⟩ := name_sum (65 + (i : Int) % 26) (97 + (i : Int) / 26)
          have HNM := Lib.hid hnm
          clear hi hP hPs hqp hcs hwx hlt hp hc hnm
          go_upto_region 17 with fail
          clear x1 z0 f0 l0 hcv hap hs
          refine name_any ?_
          intro V5 hV5
          have hwx5 : WX (fun x => x = gp) V4 V5 := by rw [hV5]; exact (HWX.out.trans (WX.set (X := fun x => x = gp) rfl _ _)).trans (WX.of_below (below1 _ _))
          have hq5 : ∃ cs5, V5.heap[gp]? = some (.cells cs5 57) ∧ cs5.toList = (P.set i (nm, p.2)).flatMap ptC := by
            refine ⟨cs.setIfInBounds (i * 2) (.string nm), by rw [hV5]; exact blk_keep (below1 _ _) (blk_set HQPr.out (i * 2) (.string nm)), ?_⟩
            rw [Array.toList_setIfInBounds, HCS.out, flat_set HPI.out]
          have HWX5 := Lib.hid hwx5
          have HQ5 := Lib.hid hq5
          have HPS5 : Hid (∀ x ∈ P.set i (nm, p.2), x.1.size ≤ maxLen) := Lib.hid (fun x hx => by
            rcases List.mem_or_eq_of_mem_set hx with h | h
            · exact HPS.out x h
            · rw [h]; exact HNM.out)
          clear hV5 hwx5 hq5
          go_wp2_with fail
          go_roundg (32 - (i + 1))
          case rel =>
            obtain ⟨cs5, h1, h2⟩ := HQ5.out
            exact ⟨i + 1, P.set i (nm, p.2), cs5, lp_next HI.out HLT.out, by go_num, by rw [List.length_set]; exact HP.out, HPS5.out, h1, h2, HWX5.out⟩
          case measure => exact lp_less HI.out HLT.out
        · have d2 : ¬ (i : Int) < 32 := by omega
          have hLG : LayAt wr (bigL gs gp P) := big_at (hwx.keep HG7.out.2.2.1 HQS.out) hqp hcs hP hPs
          have HLG := Lib.hid hLG
          have HBG : Hid (Below V.heap.size V wr) := Lib.hid (below_on HB3.out (WX.below HB4.out hwx (fun x hx => by rw [hx]; exact HG7.out.2.2.2.2)))
          have HQ1 := Lib.hid (hwx.keep HG7.out.1 (blk_keep HB4.out HQ13.out))
          have HQ6 := Lib.hid (hwx.keep HG7.out.2.1 (blk_keep HB4.out HQ63.out))
          have HGV := Lib.hid (big_v gs gp P hP)
          have HLB4 : Hid (LayAt wr (badL c)) := Lib.hid (HLB.out.below (WX.below HB4.out hwx (fun x hx => by rw [hx]; exact HG7.out.2.2.2.2)))
          clear hi hP hPs hqp hcs hwx hlt hLG HI HP HPS HQPr HCS HWX HQS HQP HQ7 HG7 HB4 HCP HLB HB3 HQ13 HQ63
          have M1 : Hid (∀ W, Below wr.heap.size wr W → Calls Try.prog 3 #[.agg #[.slice (some ⟨c + 1, 0, none⟩) 6 6, .slice (some ⟨c + 2, 0, none⟩) 2 2, .slice (some ⟨c + 3, 0, none⟩) 3 3, .slice (some ⟨c + 16, 0, none⟩) 5 5], .agg #[.int .u64 0, .int .u32 0, .int .u32 0, .slice none 0 0], .agg #[.int .u64 0, .int .u32 0]] W fun e w' => e = .returned (.bool true) ∧ Below wr.heap.size wr w') := Lib.hid (fun W hW => (kn_cycle (badL c) 0 0 0 0 0 _ (by decide) (by decide) (by decide) (by decide) (by decide) W (HLB4.out.below hW) (bad_v c)).mono (fun _ _ h => ⟨h.1, below_on hW h.2⟩))
          have M2 : Hid (∀ W, Below wr.heap.size wr W → Calls Try.prog 3 #[.agg #[.slice (some ⟨gs, 0, none⟩) 1 1, .slice (some ⟨gp, 0, none⟩) 32 32, .slice none 0 0, .slice none 0 0], .agg #[.int .u64 0, .int .u32 0, .int .u32 0, .slice none 0 0], .agg #[.int .u64 0, .int .u32 4294967295]] W fun e w' => e = .returned (.bool true) ∧ Below wr.heap.size wr w') := Lib.hid (fun W hW => (kn_cycle (bigL gs gp P) 0 0 0 0 4294967295 _ (by decide) (by decide) (by decide) (by decide) (by decide) W (HLG.out.below hW) HGV.out).mono (fun _ _ h => ⟨h.1, below_on hW h.2⟩))
          have M3 : Hid (∀ W, Below wr.heap.size wr W → Calls Try.prog 3 #[.agg #[.slice (some ⟨gs, 0, none⟩) 1 1, .slice (some ⟨gp, 0, none⟩) 32 32, .slice none 0 0, .slice none 0 0], .agg #[.int .u64 0, .int .u32 0, .int .u32 0, .slice none 0 0], .agg #[.int .u64 1, .int .u32 0]] W fun e w' => e = .returned (.bool true) ∧ Below wr.heap.size wr w') := Lib.hid (fun W hW => (kn_cycle (bigL gs gp P) 0 0 0 1 0 _ (by decide) (by decide) (by decide) (by decide) (by decide) W (HLG.out.below hW) HGV.out).mono (fun _ _ h => ⟨h.1, below_on hW h.2⟩))
          have M4 : Hid (∀ W, Below wr.heap.size wr W → Calls Try.prog 3 #[.agg #[.slice (some ⟨b + 1, 0, none⟩) 6 6, .slice (some ⟨b + 2, 0, none⟩) 2 2, .slice (some ⟨b + 3, 0, none⟩) 3 3, .slice (some ⟨b + 16, 0, none⟩) 5 5], .agg #[.int .u64 0, .int .u32 0, .int .u32 0, .slice none 0 0], .agg #[.int .u64 9223372036854775808, .int .u32 0]] W fun e w' => e = .returned (.bool true) ∧ Below wr.heap.size wr w') := Lib.hid (fun W hW => (HC.out 0 0 0 9223372036854775808 0 (by decide) (by decide) (by decide) (by decide) (by decide) W (below_on HBG.out hW)).mono (fun _ _ h => ⟨h.1, below_on hW h.2⟩))
          have M5 : Hid (∀ W, Below wr.heap.size wr W → Calls Try.prog 3 #[.agg #[.slice (some ⟨b + 1, 0, none⟩) 6 6, .slice (some ⟨b + 2, 0, none⟩) 2 2, .slice (some ⟨b + 3, 0, none⟩) 3 3, .slice (some ⟨b + 16, 0, none⟩) 5 5], .agg #[.int .u64 0, .int .u32 0, .int .u32 0, .slice none 0 0], .agg #[.int .u64 0, .int .u32 2147483648]] W fun e w' => e = .returned (.bool true) ∧ Below wr.heap.size wr w') := Lib.hid (fun W hW => (HC.out 0 0 0 0 2147483648 (by decide) (by decide) (by decide) (by decide) (by decide) W (below_on HBG.out hW)).mono (fun _ _ h => ⟨h.1, below_on hW h.2⟩))
          have M8 : Hid (∀ W, Below wr.heap.size wr W → Calls Try.prog 4 #[.agg #[.slice (some ⟨c + 1, 0, none⟩) 6 6, .slice (some ⟨c + 2, 0, none⟩) 2 2, .slice (some ⟨c + 3, 0, none⟩) 3 3, .slice (some ⟨c + 16, 0, none⟩) 5 5], .agg #[.int .u64 0, .int .u32 0, .int .u32 0, .slice none 0 0], .agg #[.int .u64 0, .int .u32 0], .int .u64 0] W fun e w' => e = .returned (.bool true) ∧ Below wr.heap.size wr w') := Lib.hid (fun W hW => (kn_less (badL c) 0 0 0 0 0 0 _ (by decide) (by decide) (by decide) (by decide) (by decide) (by decide) W (HLB4.out.below hW) (bad_v c)).mono (fun _ _ h => ⟨h.1, below_on hW h.2⟩))
          have M9 : Hid (∀ W, Below wr.heap.size wr W → Calls Try.prog 11 #[] W fun e w' => e = .returned (.bool true) ∧ Below wr.heap.size wr w') := Lib.hid (fun W hW => (works_is W).mono (fun _ _ h => ⟨h.1, below_on hW h.2⟩))
          have M6 : Hid (∀ W (g h : Nat), Below wr.heap.size wr W → W.heap[g]? = some (.cells #[.int .u64 0, .int .u32 0, .int .u32 0, .slice none 0 0, .int .u64 0, .int .u32 0, .int .u32 0, .slice none 0 0, .int .u64 0, .int .u32 0, .int .u32 0, .slice none 0 0] 32) → W.heap[h]? = some (.cells #[.int .u64 0, .int .u32 0, .int .u64 1, .int .u32 0] 34) → Calls Try.prog 5 #[.agg #[.slice (some ⟨b + 1, 0, none⟩) 6 6, .slice (some ⟨b + 2, 0, none⟩) 2 2, .slice (some ⟨b + 3, 0, none⟩) 3 3, .slice (some ⟨b + 16, 0, none⟩) 5 5], .slice (some ⟨g, 0, none⟩) 3 3, .slice (some ⟨h, 0, none⟩) 2 2] W fun e w' => e = .returned (.bool true) ∧ Below wr.heap.size wr w') := Lib.hid (fun W g h hW h1 h2 => (kn_row (yardL b) [⟨0, 0, 0, none, 0, 0⟩, ⟨0, 0, 0, none, 0, 0⟩, ⟨0, 0, 0, none, 0, 0⟩] [⟨0, 0⟩, ⟨1, 0⟩] _ _ 3 2 3 2 _ ip_zero op_zero rfl rfl W (HLV.out.below (below_on HBG.out hW)) (row_blk (sz := 4) (f := ipC) (fun _ => rfl) h1 rfl) (row_blk (sz := 2) (f := opC) (fun _ => rfl) h2 rfl) (yard_v b)).mono (fun _ _ h => ⟨h.1, below_on hW h.2⟩))
          have M7 : Hid (∀ W (h : Nat), Below wr.heap.size wr W → W.heap[h]? = some (.cells #[.int .u64 0, .int .u32 0, .int .u64 0, .int .u32 0] 34) → Calls Try.prog 5 #[.agg #[.slice (some ⟨b + 1, 0, none⟩) 6 6, .slice (some ⟨b + 2, 0, none⟩) 2 2, .slice (some ⟨b + 3, 0, none⟩) 3 3, .slice (some ⟨b + 16, 0, none⟩) 5 5], .slice none 0 0, .slice (some ⟨h, 0, none⟩) 2 2] W fun e w' => e = .returned (.bool true) ∧ Below wr.heap.size wr w') := Lib.hid (fun W h hW h2 => (kn_row (yardL b) [] [⟨0, 0⟩, ⟨0, 0⟩] _ _ 0 2 0 2 _ (fun _ h => (by cases h)) op_zero2 rfl rfl W (HLV.out.below (below_on HBG.out hW)) RowAt.nil (row_blk (sz := 2) (f := opC) (fun _ => rfl) h2 rfl) (yard_v b)).mono (fun _ _ h => ⟨h.1, below_on hW h.2⟩))
          have HS : Hid (∀ w', Below wr.heap.size wr w' → (w'.cell? ⟨g1, 0, none⟩ = some (.slice (some ⟨b + 1, 0, none⟩) 6 6) ∧ w'.cell? ⟨g1, 1, none⟩ = some (.slice (some ⟨b + 2, 0, none⟩) 2 2) ∧ w'.cell? ⟨g1, 2, none⟩ = some (.slice (some ⟨b + 3, 0, none⟩) 3 3) ∧ w'.cell? ⟨g1, 3, none⟩ = some (.slice (some ⟨b + 16, 0, none⟩) 5 5) ∧ w'.cell? ⟨g6, 0, none⟩ = some (.slice (some ⟨c + 1, 0, none⟩) 6 6) ∧ w'.cell? ⟨g6, 1, none⟩ = some (.slice (some ⟨c + 2, 0, none⟩) 2 2) ∧ w'.cell? ⟨g6, 2, none⟩ = some (.slice (some ⟨c + 3, 0, none⟩) 3 3) ∧ w'.cell? ⟨g6, 3, none⟩ = some (.slice (some ⟨c + 16, 0, none⟩) 5 5) ∧ w'.cell? ⟨g7, 0, none⟩ = some (.slice (some ⟨gs, 0, none⟩) 1 1) ∧ w'.cell? ⟨g7, 1, none⟩ = some (.slice (some ⟨gp, 0, none⟩) 32 32) ∧ w'.cell? ⟨g7, 2, none⟩ = some (.slice none 0 0) ∧ w'.cell? ⟨g7, 3, none⟩ = some (.slice none 0 0))) := Lib.hid (fun w' hw' => ⟨blk_cell (blk_keep hw' HQ1.out) 0 _ rfl, blk_cell (blk_keep hw' HQ1.out) 1 _ rfl, blk_cell (blk_keep hw' HQ1.out) 2 _ rfl, blk_cell (blk_keep hw' HQ1.out) 3 _ rfl, blk_cell (blk_keep hw' HQ6.out) 0 _ rfl, blk_cell (blk_keep hw' HQ6.out) 1 _ rfl, blk_cell (blk_keep hw' HQ6.out) 2 _ rfl, blk_cell (blk_keep hw' HQ6.out) 3 _ rfl, blk_cell (blk_keep hw' HQ7r.out) 0 _ rfl, blk_cell (blk_keep hw' HQ7r.out) 1 _ rfl, blk_cell (blk_keep hw' HQ7r.out) 2 _ rfl, blk_cell (blk_keep hw' HQ7r.out) 3 _ rfl⟩)
          have mk3 := made3i
          have mk2 := made2o
          have HB0' : Below wr.heap.size wr wr := Below.refl _ _
          clear HC HL HLV HLB4 HLG HGV HQ1 HQ6 HQ7r HQ
          go_upto_region 19 with fail
          go_region_held3 (fun w' => w'.cell? ⟨g1, 0, none⟩ = some (.slice (some ⟨b + 1, 0, none⟩) 6 6) ∧ w'.cell? ⟨g1, 1, none⟩ = some (.slice (some ⟨b + 2, 0, none⟩) 2 2) ∧ w'.cell? ⟨g1, 2, none⟩ = some (.slice (some ⟨b + 3, 0, none⟩) 3 3) ∧ w'.cell? ⟨g1, 3, none⟩ = some (.slice (some ⟨b + 16, 0, none⟩) 5 5) ∧ w'.cell? ⟨g6, 0, none⟩ = some (.slice (some ⟨c + 1, 0, none⟩) 6 6) ∧ w'.cell? ⟨g6, 1, none⟩ = some (.slice (some ⟨c + 2, 0, none⟩) 2 2) ∧ w'.cell? ⟨g6, 2, none⟩ = some (.slice (some ⟨c + 3, 0, none⟩) 3 3) ∧ w'.cell? ⟨g6, 3, none⟩ = some (.slice (some ⟨c + 16, 0, none⟩) 5 5) ∧ w'.cell? ⟨g7, 0, none⟩ = some (.slice (some ⟨gs, 0, none⟩) 1 1) ∧ w'.cell? ⟨g7, 1, none⟩ = some (.slice (some ⟨gp, 0, none⟩) 32 32) ∧ w'.cell? ⟨g7, 2, none⟩ = some (.slice none 0 0) ∧ w'.cell? ⟨g7, 3, none⟩ = some (.slice none 0 0)) (exact HS.out _ (by repeat first | assumption | with_reducible exact Below.refl _ _ | with_reducible refine Below.drew ?_ | with_reducible refine below_on ?_ (below1 _ _)))
              (first
                | ((with_reducible refine (M1.out _ (by repeat first | assumption | with_reducible exact Below.refl _ _ | with_reducible refine Below.drew ?_ | with_reducible refine below_on ?_ (below1 _ _))).mono ?_); rintro e y1 ⟨rfl, hy1⟩)
                | ((with_reducible refine (M2.out _ (by repeat first | assumption | with_reducible exact Below.refl _ _ | with_reducible refine Below.drew ?_ | with_reducible refine below_on ?_ (below1 _ _))).mono ?_); rintro e y1 ⟨rfl, hy1⟩)
                | ((with_reducible refine (M3.out _ (by repeat first | assumption | with_reducible exact Below.refl _ _ | with_reducible refine Below.drew ?_ | with_reducible refine below_on ?_ (below1 _ _))).mono ?_); rintro e y1 ⟨rfl, hy1⟩)
                | ((with_reducible refine (M4.out _ (by repeat first | assumption | with_reducible exact Below.refl _ _ | with_reducible refine Below.drew ?_ | with_reducible refine below_on ?_ (below1 _ _))).mono ?_); rintro e y1 ⟨rfl, hy1⟩)
                | ((with_reducible refine (M5.out _ (by repeat first | assumption | with_reducible exact Below.refl _ _ | with_reducible refine Below.drew ?_ | with_reducible refine below_on ?_ (below1 _ _))).mono ?_); rintro e y1 ⟨rfl, hy1⟩)
                | ((with_reducible refine (M8.out _ (by repeat first | assumption | with_reducible exact Below.refl _ _ | with_reducible refine Below.drew ?_ | with_reducible refine below_on ?_ (below1 _ _))).mono ?_); rintro e y1 ⟨rfl, hy1⟩)
                | ((with_reducible refine (M9.out _ (by repeat first | assumption | with_reducible exact Below.refl _ _ | with_reducible refine Below.drew ?_ | with_reducible refine below_on ?_ (below1 _ _))).mono ?_); rintro e y1 ⟨rfl, hy1⟩)
                | (with_reducible refine (M6.out _ _ _ (by repeat first | assumption | with_reducible exact Below.refl _ _ | with_reducible refine Below.drew ?_ | with_reducible refine below_on ?_ (below1 _ _)) ?_ ?_).mono ?_
                   · first | exact allocs_at [_, _] _ 0 _ rfl | exact allocs_at [_, _] _ 1 _ rfl
                   · first | exact allocs_at [_, _] _ 1 _ rfl | exact allocs_at [_, _] _ 0 _ rfl
                   rintro e y1 ⟨rfl, hy1⟩)
                | (with_reducible refine (M7.out _ _ (by repeat first | assumption | with_reducible exact Below.refl _ _ | with_reducible refine Below.drew ?_ | with_reducible refine below_on ?_ (below1 _ _)) ?_).mono ?_
                   · exact alloc1 _ _ (Below.refl _ _)
                   rintro e y1 ⟨rfl, hy1⟩))
          all_goals
            have HBY := Lib.hid (below_on HB0.out (below_on HBG.out hy1))
            clear hy1 HS mk3 mk2
            go_wp2_with fail
            go_ret
            exact ⟨rfl, HBY.out⟩
end Go.Proofs.Ythnpekbmaapgnaa
