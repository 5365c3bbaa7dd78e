/-
  The walk of the statement VotePlays of chapter 12.
-/
import Derived.Test.YtamgaaakmldlbaaVoteDoes
import Derived.Test.YtamgaaakmldlbaaCalm
namespace Go.Proofs.Ytamgaaakmldlbaa
open Go.RowKit
attribute [local irreducible] VSt.put VSt.fin VSt.stop VSt.reset VSt.step

/-- a row of calls that lies in memory -/
def CallsAt (w : World) (a : Option Addr) (l : List (Int × Int × Frm)) : Prop :=
  l = [] ∨ ∃ b off, a = some ⟨b, off, none⟩ ∧ ∀ i c, l[i]? = some c → w.cell? ⟨b, off + i * 6, none⟩ = some (.int .i64 c.1) ∧ w.cell? ⟨b, off + i * 6 + 1, none⟩ = some (.int .i64 c.2.1) ∧ w.cell? ⟨b, off + i * 6 + 2, none⟩ = some (.int .i64 c.2.2.c) ∧ w.cell? ⟨b, off + i * 6 + 3, none⟩ = some (.int .i64 c.2.2.e) ∧ w.cell? ⟨b, off + i * 6 + 4, none⟩ = some (.int .u64 c.2.2.p) ∧ w.cell? ⟨b, off + i * 6 + 5, none⟩ = some (.int .u32 c.2.2.q)
theorem CallsAt.below {w w' : World} {a : Option Addr} {l : List (Int × Int × Frm)} (hb : Below w.heap.size w w') (h : CallsAt w a l) : CallsAt w' a l := by
  refine h.imp id ?_
  rintro ⟨b, off, rfl, hc⟩
  refine ⟨b, off, rfl, fun i c hi => ?_⟩
  obtain ⟨h0, h1, h2, h3, h4, h5⟩ := hc i c hi
  exact ⟨cell_later hb h0, cell_later hb h1, cell_later hb h2, cell_later hb h3, cell_later hb h4, cell_later hb h5⟩
theorem call_of {w : World} {cs : List Value} (h : Rd Try.prog w 46 cs) : ∃ c : Int × Int × Frm, cs = [.int .i64 c.1, .int .i64 c.2.1, .int .i64 c.2.2.c, .int .i64 c.2.2.e, .int .u64 c.2.2.p, .int .u32 c.2.2.q] := by
  obtain ⟨hl, hf⟩ := h.fields (L := [(3, 0), (3, 1), (27, 2)]) (by kernel_rfl) (by kernel_rfl)
  rw [show Try.prog.cellsOf 46 = 6 by kernel_rfl] at hl
  match cs, hl with
  | [x, y, z, t, u, v], _ =>
    have h0 := hf (3, 0) (by simp)
    have h1 := hf (3, 1) (by simp)
    have h2 := hf (27, 2) (by simp)
    simp only [show Try.prog.cellsOf 3 = 1 by kernel_rfl, show Try.prog.cellsOf 27 = 4 by kernel_rfl] at h0 h1 h2
    obtain ⟨a, ha, wa⟩ := h0.int Try.underlying3
    obtain ⟨b, hb, wb⟩ := h1.int Try.underlying3
    obtain ⟨F, hF⟩ := frm_of h2
    simp at ha hb hF
    exact ⟨(a, b, F), by rw [ha, hb, hF.1, hF.2.1, hF.2.2.1, hF.2.2.2]⟩
theorem calls_of {w : World} {a : Option Addr} {len cap : Nat} (h : Rd Try.prog w 37 [.slice a len cap]) : ∃ l : List (Int × Int × Frm), l.length = len ∧ len ≤ maxLen ∧ CallsAt w a l := by
  rcases h.slice Try.underlying37 with h | ⟨x, n, c, h, hlc, hcm, hel⟩
  · simp only [List.cons.injEq, Value.slice.injEq, and_true] at h
    obtain ⟨rfl, rfl, rfl⟩ := h
    exact ⟨[], rfl, Nat.zero_le _, .inl rfl⟩
  · simp only [List.cons.injEq, Value.slice.injEq, and_true] at h
    obtain ⟨rfl, rfl, rfl⟩ := h
    have hsz : Try.prog.cellsOf 46 = 6 := by kernel_rfl
    have H : ∀ i, i < len → ∃ c : Int × Int × Frm, w.cell? ((x.add (i * 6)).add 0) = some (.int .i64 c.1) ∧ w.cell? ((x.add (i * 6)).add 1) = some (.int .i64 c.2.1) ∧ w.cell? ((x.add (i * 6)).add 2) = some (.int .i64 c.2.2.c) ∧ w.cell? ((x.add (i * 6)).add 3) = some (.int .i64 c.2.2.e) ∧ w.cell? ((x.add (i * 6)).add 4) = some (.int .u64 c.2.2.p) ∧ w.cell? ((x.add (i * 6)).add 5) = some (.int .u32 c.2.2.q) := by
      intro i hi
      obtain ⟨ecs, he, hr⟩ := hel i (by omega)
      rw [hsz] at he
      obtain ⟨c, rfl⟩ := call_of hr
      obtain ⟨_, hg⟩ := cells_get he
      obtain ⟨v0, g0, c0⟩ := hg 0 (by omega)
      obtain ⟨v1, g1, c1⟩ := hg 1 (by omega)
      obtain ⟨v2, g2, c2⟩ := hg 2 (by omega)
      obtain ⟨v3, g3, c3⟩ := hg 3 (by omega)
      obtain ⟨v4, g4, c4⟩ := hg 4 (by omega)
      obtain ⟨v5, g5, c5⟩ := hg 5 (by omega)
      simp at g0 g1 g2 g3 g4 g5
      subst g0 g1 g2 g3 g4 g5
      exact ⟨c, c0, c1, c2, c3, c4, c5⟩
    obtain ⟨l, hl, hq⟩ := list_of len H
    refine ⟨l, hl, Nat.le_trans hlc hcm, ?_⟩
    rcases l with _ | ⟨c0, l⟩
    · exact .inl rfl
    · right
      have h0 := (hq 0 c0 rfl).1
      have hs : x.spot = none := World.cell?_spot (show w.cell? x = some _ by simpa [Addr.add] using h0)
      obtain ⟨b, off, spot⟩ := x
      subst hs
      refine ⟨b, off, rfl, fun i c hi => ?_⟩
      have := hq i c hi
      simpa only [Addr.add_lit, Nat.add_zero] using this

set_option maxRecDepth 100000 in
set_option maxHeartbeats 4000000 in
theorem plays_any (a : Option Addr) (n cap : Nat) (l : List (Int × Int × Frm)) (w : World) (hn : l.length = n) (hm : n ≤ maxLen) (hl : CallsAt w a l) :
    Calls Try.prog 4 #[.slice a n cap] w fun e w' => e = .returned (.bool true) ∧ Below w.heap.size w w' := by
  have hm' : (n : Int) ≤ 9223372036854775807 := by unfold maxLen at hm; omega
  have HN := Lib.hid hn
  clear hn
  by_cases h200 : 200 < n
  · go_enter Try.func4, Try.ntmps4
    go_wp2_with fail
    refine (works_any _).mono ?_
    rintro e w3 ⟨rfl, hb3⟩
    go_wp2_with fail
    go_ret
    exact ⟨rfl, hb3⟩
  clear hm'
  go_enter Try.func4, Try.ntmps4
  go_wp2_with fail
  refine (new_any _).mono ?_
  rintro e w1 ⟨g, rfl, hg, hv1, hb1⟩
  go_wp2_with fail
  have hr1 : RefAt (w1.alloc (Obj.cells #[.bool false, .bool false, .int .i64 0, .int .i64 0, .int .u64 0, .int .u32 0, .int .i64 0, .int .i64 0, .int .u64 0, .int .u32 0, .bool false, .int .i64 0, .int .i64 0, .int .u64 0, .int .u32 0, .int .i64 0, .bool false] 43)) w1.heap.size s0 :=
    ⟨zf, zf, zf, heap_new' w1 _, (by intro f hf; cases hf), (by intro f hf; cases hf), rfl⟩
  have hv1' : VoteAt (w1.alloc (Obj.cells #[.bool false, .bool false, .int .i64 0, .int .i64 0, .int .u64 0, .int .u32 0, .int .i64 0, .int .i64 0, .int .u64 0, .int .u32 0, .bool false, .int .i64 0, .int .i64 0, .int .u64 0, .int .u32 0, .int .i64 0, .bool false] 43)) g s0 := hv1.below (below1 _ _)
  have b1 := below_on hb1 (below1 w1 (Obj.cells #[.bool false, .bool false, .int .i64 0, .int .i64 0, .int .u64 0, .int .u32 0, .int .i64 0, .int .i64 0, .int .u64 0, .int .u32 0, .bool false, .int .i64 0, .int .i64 0, .int .u64 0, .int .u32 0, .int .i64 0, .bool false] 43))
  have hh : w.heap.size ≤ w1.heap.size := hb1.size
  obtain ⟨h, hhd⟩ : ∃ h, h = w1.heap.size := ⟨_, rfl⟩
  rw [← hhd] at hr1 hh ⊢
  obtain ⟨W1, hW1⟩ : ∃ W1, W1 = w1.alloc (Obj.cells #[.bool false, .bool false, .int .i64 0, .int .i64 0, .int .u64 0, .int .u32 0, .int .i64 0, .int .i64 0, .int .u64 0, .int .u32 0, .bool false, .int .i64 0, .int .i64 0, .int .u64 0, .int .u32 0, .int .i64 0, .bool false] 43) := ⟨_, rfl⟩
  rw [← hW1] at hr1 hv1' b1 ⊢
  clear hW1 hhd hv1 hb1
  go_loopw [5] (fun i wr => ∃ (k : Nat) (s : VSt), k ≤ n ∧ i = .int .i64 k ∧ VoteAt wr g s ∧ RefAt wr h s ∧ Below w.heap.size w wr) (fun i _ => n - (intOf i).toNat)
  case atStart => exact ⟨0, s0, by omega, rfl, hv1', hr1, b1⟩
  case round =>
    obtain ⟨k, s, hk, rfl, hv, hr, hB⟩ := hrel
    clear hv1' hr1 b1
    by_cases hlt : k < n
    · rcases hl.below hB with hnil | ⟨b, off, rfl, hcells⟩
      · rw [hnil] at HN; exact absurd HN.out (by simp; omega)
      obtain ⟨c, hc⟩ : ∃ c, l[k]? = some c := ⟨_, List.getElem?_eq_getElem (by rw [HN.out]; exact hlt)⟩
      obtain ⟨z0, z1, z2, z3, z4, z5⟩ := hcells k c hc
      have x1 := World.block_lt_of_cell? _ _ z0
      have d1 : (0 : Int) ≤ k := by omega
      have d2 : (k : Int) < n := by omega
      clear hc hcells
      go_wp2_with fail
      refine (does_any s g h c.1 c.2.1 c.2.2 _ hv hr).mono ?_
      rintro e w2 ⟨rfl, ⟨s', hv2, hr2⟩, hB2⟩
      have b2 := hB.trans (hB2 _ hg hh hB.size)
      clear hB2 z0 z1 z2 z3 z4 z5 x1 hv hr
      go_wp2_with fail
      refine (shown_any s' g _ hv2).mono ?_
      rintro e w3 ⟨rfl, hb3⟩
      go_wp2_with fail
      have hb3' := below_on hb3 (below1 w3 (Obj.cells #[Value.int IntKind.i64 s'.frm.c, Value.int IntKind.i64 s'.frm.e, Value.int IntKind.u64 s'.frm.p, Value.int IntKind.u32 s'.frm.q] 27))
      have hv3 := hv2.below hb3'
      have hr3 := hr2.below hb3'
      have kX := heap_new' w3 (Obj.cells #[Value.int IntKind.i64 s'.frm.c, Value.int IntKind.i64 s'.frm.e, Value.int IntKind.u64 s'.frm.p, Value.int IntKind.u32 s'.frm.q] 27)
      have b3 := below_on b2 hb3'
      obtain ⟨W, hW⟩ : ∃ W, W = w3.alloc (Obj.cells #[Value.int IntKind.i64 s'.frm.c, Value.int IntKind.i64 s'.frm.e, Value.int IntKind.u64 s'.frm.p, Value.int IntKind.u32 s'.frm.q] 27) := ⟨_, rfl⟩
      rw [← hW] at hv3 hr3 kX b3 ⊢
      clear hW hb3 hb3' hv2 hr2 b2
      obtain ⟨F0, F1, FS, kR, _, _, hFS⟩ := hr3
      subst hFS
      have hne := neq_rfrm s'.frm s'.frm
      rw [decide_eq_true rfl] at hne
      have hgd := rfrm_guard
      have c1 : ∀ w', Below W.heap.size W w' → Calls Try.prog 15 #[.agg #[.int .i64 s'.frm.c, .int .i64 s'.frm.e, .int .u64 s'.frm.p, .int .u32 s'.frm.q]] w' fun e w'' => e = .returned (.agg #[.int .i64 s'.frm.c, .int .i64 s'.frm.e, .int .u64 s'.frm.p, .int .u32 s'.frm.q]) ∧ Below W.heap.size W w'' :=
        fun w' hw' => (ref_any s'.frm w').mono (fun e w9 ⟨h1, h2⟩ => ⟨h1, below_on hw' h2⟩)
      have c2 : ∀ w', Below W.heap.size W w' → Calls Try.prog 13 #[.pointer (some ⟨g, 0, none⟩)] w' fun e w'' => e = .returned (.bool s'.stopped) ∧ Below W.heap.size W w'' :=
        fun w' hw' => (stopped_any s' g w' (hv3.below hw')).mono (fun e w9 ⟨h1, h2⟩ => ⟨h1, h2 ▸ hw'⟩)
      have c3 : ∀ w', Below W.heap.size W w' → Calls Try.prog 16 #[.pointer (some ⟨g, 0, none⟩)] w' fun e w'' => e = .returned (.int .i64 s'.last) ∧ Below W.heap.size W w'' :=
        fun w' hw' => (last_any s' g w' (hv3.below hw')).mono (fun e w9 ⟨h1, h2⟩ => ⟨h1, h2 ▸ hw'⟩)
      refine wp_region_calm (by kernel_rfl) (by kernel_rfl) ?_
      repeat
        (refine wpQuiet_step (fun K hK => ?_)
         go_simp
         first
           | (refine hK _ ?_; clear hK K)
           | (apply Exists.intro
              refine ⟨fun w' hw' => ?_, hK _ ?_⟩
              ·
                (first
                 | with_reducible exact c1 _ hw'
                 | with_reducible exact c2 _ hw'
                 | with_reducible exact c3 _ hw'
                 | (have kR' := blk_keep hw' kR
                    have kX' := blk_keep hw' kX
                    have eR10 := blk_cell kR' 10 _ rfl
                    have eR11 := blk_cell kR' 11 _ rfl
                    have eR12 := blk_cell kR' 12 _ rfl
                    have eR13 := blk_cell kR' 13 _ rfl
                    have eR14 := blk_cell kR' 14 _ rfl
                    have eR15 := blk_cell kR' 15 _ rfl
                    have eR16 := blk_cell kR' 16 _ rfl
                    have eX0 := blk_cell kX' 0 _ rfl
                    have eX1 := blk_cell kX' 1 _ rfl
                    have eX2 := blk_cell kX' 2 _ rfl
                    have eX3 := blk_cell kX' 3 _ rfl
                    go_simp
                    first | done | exact rfl | exact ⟨rfl, rfl⟩ | exact c1 _ hw' | exact c2 _ hw' | exact c3 _ hw'))
              clear hK K))
      refine wpQuiet_nil ?_
      intro w5 hw5
      have hv5 := hv3.below hw5
      have hr5 : RefAt w5 h s' := ⟨F0, F1, s'.frm, blk_keep hw5 kR, by assumption, by assumption, rfl⟩
      have b5 := below_on b3 hw5
      clear c1 c2 c3
      go_wp2_with fail
      go_roundw
      case rel => exact ⟨k + 1, s', by omega, by go_num, hv5, hr5, b5⟩
      case measure => simp [intOf]; omega
    · obtain rfl : k = n := by omega
      go_wp2_with fail
      refine (works_any _).mono ?_
      rintro e w3 ⟨rfl, hb3⟩
      go_wp2_with fail
      go_ret
      exact ⟨rfl, below_on hB hb3⟩
theorem walk_VotePlays (a0 : Option Addr) (len0 cap0 : Nat) (w : World) (w0 : Rd Try.prog w 37 [.slice a0 len0 cap0]) :
    Calls Try.prog 4 #[.slice a0 len0 cap0] w fun e w' => e = .returned (.bool true) ∧ Below w.heap.size w w' := by
  obtain ⟨l, h1, h2, h3⟩ := calls_of w0
  exact plays_any a0 len0 cap0 l w h1 h2 h3
end Go.Proofs.Ytamgaaakmldlbaa
