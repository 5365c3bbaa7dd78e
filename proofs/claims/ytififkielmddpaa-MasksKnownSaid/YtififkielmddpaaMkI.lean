/-
  Layer 08: MasksNeed.
-/
import Derived.Test.YtififkielmddpaaMkH
namespace Go.Proofs.Ytififkielmddpaa
open Go.RowKit
set_option maxRecDepth 100000
theorem k_u64 {a : Int} (h : (Lit.int .u64 a).wf = true) : ∃ n : Nat, a = n ∧ n < 18446744073709551616 := by have := bounds_u64 h; exact ⟨a.toNat, by omega, by omega⟩
theorem k_u32 {a : Int} (h : (Lit.int .u32 a).wf = true) : ∃ n : Nat, a = n ∧ n < 4294967296 := by have := bounds_u32 h; exact ⟨a.toNat, by omega, by omega⟩
theorem mk_el {w : World} {cs : List Value} (h : Rd Try.prog w 49 cs) : ∃ c : Mk, cs = mkC c ∧ c.ok := by
  obtain ⟨hl, hf⟩ := h.fields (L := [(33, 0), (33, 1), (33, 2), (34, 3), (34, 4), (33, 5)]) (by kernel_rfl) (by kernel_rfl)
  rw [show Try.prog.cellsOf 49 = 6 by kernel_rfl] at hl
  match cs, hl with
  | [x0, x1, x2, x3, x4, x5], _ =>
    have h0 := hf (33, 0) (by simp)
    have h1 := hf (33, 1) (by simp)
    have h2 := hf (33, 2) (by simp)
    have h3 := hf (34, 3) (by simp)
    have h4 := hf (34, 4) (by simp)
    have h5 := hf (33, 5) (by simp)
    simp only [show Try.prog.cellsOf 33 = 1 by kernel_rfl, show Try.prog.cellsOf 34 = 1 by kernel_rfl] at h0 h1 h2 h3 h4 h5
    obtain ⟨a0, e0, w0⟩ := h0.int Try.underlying33
    obtain ⟨a1, e1, w1⟩ := h1.int Try.underlying33
    obtain ⟨a2, e2, w2⟩ := h2.int Try.underlying33
    obtain ⟨a3, e3, w3⟩ := h3.int Try.underlying34
    obtain ⟨a4, e4, w4⟩ := h4.int Try.underlying34
    obtain ⟨a5, e5, w5⟩ := h5.int Try.underlying33
    simp at e0 e1 e2 e3 e4 e5
    subst e0; subst e1; subst e2; subst e3; subst e4; subst e5
    obtain ⟨n0, rfl, b0⟩ := k_u64 w0
    obtain ⟨n1, rfl, b1⟩ := k_u64 w1
    obtain ⟨n2, rfl, b2⟩ := k_u64 w2
    obtain ⟨n3, rfl, b3⟩ := k_u32 w3
    obtain ⟨n4, rfl, b4⟩ := k_u32 w4
    obtain ⟨n5, rfl, b5⟩ := k_u64 w5
    exact ⟨⟨n0, n1, n2, n3, n4, n5⟩, rfl, b0, b1, b2, b3, b4, b5⟩
theorem mks_of {w : World} {cs : List Value} (h : Rd Try.prog w 31 cs) : ∃ s : Sl Mk, cs = [s.v] ∧ SlAt 6 mkC w s ∧ ∀ c ∈ s.l, c.ok := sl_of (f := mkC) (sz := 6) Try.underlying31 (by kernel_rfl) (by decide) (fun _ => rfl) (fun _ h => mk_el h) h
attribute [local irreducible] Sl.v hasBit mayS Rt.tr Rt.nd checkS pw withBit withI ofN oneI sideL sideS firstS aheadS secOf rowS tabS tabL mkR mkF mksS liesS mksL liesL allL ptsL trsL formedS badS conflictS
attribute [local irreducible] orS inR

set_option maxHeartbeats 8000000 in
theorem masksNeed_is (R : List Mk) (xa : Option Addr) (m xc r : Nat) (hok : ∀ x ∈ R, x.ok) (hr : r < 18446744073709551616) (hlen : R.length = m) (w : World) (hl : RowAt 6 mkC w xa R) :
    Calls Try.prog 4 #[.slice xa m xc, .int .u64 (r : Int)] w fun e w' => e = .returned (.bool true) ∧ Below w.heap.size w w' := by
  have HROW := Lib.hid hl
  have HLEN := Lib.hid hlen
  have HOK := Lib.hid hok
  have HR := Lib.hid hr
  clear hl hlen hok hr
  go_enter Try.func4, Try.ntmps4
  by_cases h1 : (100 : Int) < m
  · go_wp2_with fail
    refine (mworks_is _).mono ?_
    rintro e w2 ⟨rfl, hb⟩
    have HB2 := Lib.hid hb
    clear hb
    go_wp2_with fail
    go_ret
    exact ⟨rfl, HB2.out⟩
  have HM : Hid (m ≤ 100) := Lib.hid (by omega)
  go_upto_region 4 with fail
  have hbw := below1 w (.cells #[.slice none 0 0, .slice none 0 0, .int .u64 0, .int .u32 0, .int .u64 0] 42)
  have hq := alloc1 w (.cells #[.slice none 0 0, .slice none 0 0, .int .u64 0, .int .u32 0, .int .u64 0] 42) (Below.refl _ _)
  obtain ⟨W, hW⟩ : ∃ W, W = w.alloc (.cells #[.slice none 0 0, .slice none 0 0, .int .u64 0, .int .u32 0, .int .u64 0] 42) := ⟨_, rfl⟩
  rw [← hW] at hbw hq ⊢
  obtain ⟨g5, hg5⟩ : ∃ g, g = w.heap.size := ⟨_, rfl⟩
  have HG5 : Hid (w.heap.size ≤ g5) := Lib.hid (by omega)
  rw [← hg5] at hq ⊢
  have HB0 := Lib.hid hbw
  have HQ0 := Lib.hid hq
  clear hbw hq hW hg5 h1
  go_upto_region 5 with fail
  go_loopg [6] m (fun g v wr => ∃ (i : Nat) (vr : Value), i + g = m ∧ v = .int .i64 (i : Int) ∧ wr.heap[g5]? = some (.cells #[vr, .slice none 0 0, .int .u64 0, .int .u32 0, .int .u64 0] 42) ∧ wr.ownsRow (g5 + 1) 50 6 vr (R.take i).length ((R.take i).flatMap mkC) ∧ Below w.heap.size w wr)
  case atStart => exact ⟨0, .slice none 0 0, by omega, rfl, HQ0.out, by rw [List.take_zero]; exact World.ownsRow_nil _ _ _ _, HB0.out⟩
  case round =>
    obtain ⟨i, vr, hi, rfl, hq, ho, hbw⟩ := hrel
    have HI := Lib.hid hi
    have HQV := Lib.hid hq
    have HO := Lib.hid ho
    have HB := Lib.hid hbw
    clear hi hq ho hbw HQ0 HB0
    by_cases hlt : i < m
    · have d1 : (0 : Int) ≤ i := by omega
      have d2 : (i : Int) < m := by omega
      have e1 := k_succ hlt (Nat.le_trans HM.out (by decide))
      have HLT := Lib.hid hlt
      obtain ⟨x, hx⟩ : ∃ x, R[i]? = some x := ⟨_, List.getElem?_eq_getElem (by rw [HLEN.out]; exact hlt)⟩
      have HX := Lib.hid hx
      obtain ⟨X, hX⟩ : ∃ a, xa = a := ⟨_, rfl⟩
      have HXX := Lib.hid hX
      have hrow := HROW.out
      rw [hX] at hrow ⊢
      rcases hrow with hnil | ⟨xb, xo, hxb, hc0⟩
      · rw [hnil] at hx; cases hx
      subst hxb
      have HE0 := Lib.hid (cell_later HB.out (hc0 i x hx 0 _ rfl))
      have HE1 := Lib.hid (cell_later HB.out (hc0 i x hx 1 _ rfl))
      have HE2 := Lib.hid (cell_later HB.out (hc0 i x hx 2 _ rfl))
      have HE3 := Lib.hid (cell_later HB.out (hc0 i x hx 3 _ rfl))
      have HE4 := Lib.hid (cell_later HB.out (hc0 i x hx 4 _ rfl))
      have HE5 := Lib.hid (cell_later HB.out (hc0 i x hx 5 _ rfl))
      rw [Nat.add_zero] at HE0
      clear hc0 hx hlt hX
      go_upto_region 7 with fail
      refine wp_region_rel (by kernel_rfl) [34, 35, 36] 20 [0, 1, 2, 3, 4, 5, 6, 7, 8, 9, 10, 11, 12, 13, 14, 15, 16, 17, 18, 19, 20, 21, 22, 23, 24, 25, 26, 27, 28, 29, 30, 31, 32, 33] [22, 23, 24, 25, 26, 27, 28, 29, 30, 31, 32, 33, 34, 35, 36, 37, 38, 39, 40, 41, 42, 43, 44, 45, 46, 47, 48, 49, 50, 51, 52, 53, 54, 55] #[true, true, true, true, true, true, true, true, true, true, true, true, true, true, true, true, true, true, true, true, true, true, true, true, true, true, true, true, true, true, true, true, true, true, false, false, false] 3 [(fun v _ => v = .pointer (some ⟨g5, 0, none⟩)), (fun v _ => v = vr), (fun v _ => v = .slice (some ⟨xb, xo, none⟩) m xc), (fun v _ => v = .int .i64 (i : Int)), (fun v _ => v = .pointer (some ⟨xb, xo + i * 6, none⟩)), (fun v _ => v = .pointer (some ⟨xb, xo + i * 6, none⟩)), (fun v _ => v = .int .u64 (x.t : Int)), (fun v _ => v = .slice (some ⟨xb, xo, none⟩) m xc), (fun v _ => v = .int .i64 (i : Int)), (fun v _ => v = .pointer (some ⟨xb, xo + i * 6, none⟩)), (fun v _ => v = .pointer (some ⟨xb, xo + i * 6 + 1, none⟩)), (fun v _ => v = .int .u64 (x.f : Int)), (fun v _ => v = .slice (some ⟨xb, xo, none⟩) m xc), (fun v _ => v = .int .i64 (i : Int)), (fun v _ => v = .pointer (some ⟨xb, xo + i * 6, none⟩)), (fun v _ => v = .pointer (some ⟨xb, xo + i * 6 + 2, none⟩)), (fun v _ => v = .int .u64 (x.a : Int)), (fun v _ => v = .slice (some ⟨xb, xo, none⟩) m xc), (fun v _ => v = .int .i64 (i : Int)), (fun v _ => v = .pointer (some ⟨xb, xo + i * 6, none⟩)), (fun v _ => v = .pointer (some ⟨xb, xo + i * 6 + 3, none⟩)), (fun v _ => v = .int .u32 (x.n : Int)), (fun v _ => v = .slice (some ⟨xb, xo, none⟩) m xc), (fun v _ => v = .int .i64 (i : Int)), (fun v _ => v = .pointer (some ⟨xb, xo + i * 6, none⟩)), (fun v _ => v = .pointer (some ⟨xb, xo + i * 6 + 4, none⟩)), (fun v _ => v = .int .u32 (x.r : Int)), (fun v _ => v = .slice (some ⟨xb, xo, none⟩) m xc), (fun v _ => v = .int .i64 (i : Int)), (fun v _ => v = .pointer (some ⟨xb, xo + i * 6, none⟩)), (fun v _ => v = .pointer (some ⟨xb, xo + i * 6 + 5, none⟩)), (fun v _ => v = .int .u64 (x.c : Int)), (fun v _ => v = .agg #[.int .u64 (x.t : Int), .int .u64 (x.f : Int), .int .u64 (x.a : Int), .int .u32 (x.n : Int), .int .u32 (x.r : Int), .int .u64 (x.c : Int)]), (fun v V => ∃ g, v = .slice (some ⟨g, 0, none⟩) 1 1 ∧ V.heap[g]? = some (.cells #[.int .u64 (x.t : Int), .int .u64 (x.f : Int), .int .u64 (x.a : Int), .int .u32 (x.n : Int), .int .u32 (x.r : Int), .int .u64 (x.c : Int)] 50)), (fun _ _ => True), (fun _ _ => True), (fun _ _ => True)] (by kernel_rfl) (by kernel_rfl) (by kernel_rfl) (by kernel_rfl) (by kernel_rfl) rfl (by kernel_rfl) rfl ?_ ?_ ?_
      · exact ⟨stays_is _, stays_is _, stays_is _, stays_is _, stays_is _, stays_is _, stays_is _, stays_is _, stays_is _, stays_is _, stays_is _, stays_is _, stays_is _, stays_is _, stays_is _, stays_is _, stays_is _, stays_is _, stays_is _, stays_is _, stays_is _, stays_is _, stays_is _, stays_is _, stays_is _, stays_is _, stays_is _, stays_is _, stays_is _, stays_is _, stays_is _, stays_is _, stays_is _, (fun v W W2 h hb => by obtain ⟨g, h1, h2⟩ := h; exact ⟨g, h1, blk_keep hb h2⟩), stays_true, stays_true, stays_true, trivial⟩
      · refine ⟨?_, ?_, ?_, ?_, ?_, ?_, ?_, ?_, ?_, ?_, ?_, ?_, ?_, ?_, ?_, ?_, ?_, ?_, ?_, ?_, ?_, ?_, ?_, ?_, ?_, ?_, ?_, ?_, ?_, ?_, ?_, ?_, ?_, ?_, trivial⟩
        · refine relOb_mk (o := ⟨some 22, _, _, _, _, _⟩) rfl (fun r V hc hf hg hs hb hd => ?_)
          have x5 : r (.tmp 5) = .pointer (some ⟨g5, 0, none⟩) := hs 5 (by kernel_rfl)
          clear hs hd hg
          go_simp
          exact ⟨Below.refl _ _, rfl⟩
        · refine relOb_mk (o := ⟨some 23, _, _, _, _, _⟩) rfl (fun r V hc hf hg hs hb hd => ?_)
          have h0 : r (.tmp 22) = .pointer (some ⟨g5, 0, none⟩) := hd 0 22 rfl (by kernel_rfl)
          clear hs hd hg
          have l := blk_cell (blk_keep hb HQV.out) 0 _ rfl
          go_simp
          exact ⟨Below.refl _ _, rfl⟩
        · refine relOb_mk (o := ⟨some 24, _, _, _, _, _⟩) rfl (fun r V hc hf hg hs hb hd => ?_)
          have x0 : r (.tmp 0) = .slice (some ⟨xb, xo, none⟩) m xc := hs 0 (by kernel_rfl)
          clear hs hd hg
          go_simp
          exact ⟨Below.refl _ _, rfl⟩
        · refine relOb_mk (o := ⟨some 25, _, _, _, _, _⟩) rfl (fun r V hc hf hg hs hb hd => ?_)
          have x6 : r (.tmp 6) = .int .i64 (i : Int) := hs 6 (by kernel_rfl)
          clear hs hd hg
          go_simp
          exact ⟨Below.refl _ _, rfl⟩
        · refine relOb_mk (o := ⟨some 26, _, _, _, _, _⟩) rfl (fun r V hc hf hg hs hb hd => ?_)
          have h2 : r (.tmp 24) = .slice (some ⟨xb, xo, none⟩) m xc := hd 2 24 rfl (by kernel_rfl)
          have h3 : r (.tmp 25) = .int .i64 (i : Int) := hd 3 25 rfl (by kernel_rfl)
          clear hs hd hg
          go_simp
          exact ⟨Below.refl _ _, rfl⟩
        · refine relOb_mk (o := ⟨some 27, _, _, _, _, _⟩) rfl (fun r V hc hf hg hs hb hd => ?_)
          have h4 : r (.tmp 26) = .pointer (some ⟨xb, xo + i * 6, none⟩) := hd 4 26 rfl (by kernel_rfl)
          clear hs hd hg
          go_simp
          exact ⟨Below.refl _ _, rfl⟩
        · refine relOb_mk (o := ⟨some 28, _, _, _, _, _⟩) rfl (fun r V hc hf hg hs hb hd => ?_)
          have h5 : r (.tmp 27) = .pointer (some ⟨xb, xo + i * 6, none⟩) := hd 5 27 rfl (by kernel_rfl)
          clear hs hd hg
          have l := cell_later hb HE0.out
          go_simp
          exact ⟨Below.refl _ _, rfl⟩
        · refine relOb_mk (o := ⟨some 29, _, _, _, _, _⟩) rfl (fun r V hc hf hg hs hb hd => ?_)
          have x0 : r (.tmp 0) = .slice (some ⟨xb, xo, none⟩) m xc := hs 0 (by kernel_rfl)
          clear hs hd hg
          go_simp
          exact ⟨Below.refl _ _, rfl⟩
        · refine relOb_mk (o := ⟨some 30, _, _, _, _, _⟩) rfl (fun r V hc hf hg hs hb hd => ?_)
          have x6 : r (.tmp 6) = .int .i64 (i : Int) := hs 6 (by kernel_rfl)
          clear hs hd hg
          go_simp
          exact ⟨Below.refl _ _, rfl⟩
        · refine relOb_mk (o := ⟨some 31, _, _, _, _, _⟩) rfl (fun r V hc hf hg hs hb hd => ?_)
          have h7 : r (.tmp 29) = .slice (some ⟨xb, xo, none⟩) m xc := hd 7 29 rfl (by kernel_rfl)
          have h8 : r (.tmp 30) = .int .i64 (i : Int) := hd 8 30 rfl (by kernel_rfl)
          clear hs hd hg
          go_simp
          exact ⟨Below.refl _ _, rfl⟩
        · refine relOb_mk (o := ⟨some 32, _, _, _, _, _⟩) rfl (fun r V hc hf hg hs hb hd => ?_)
          have h9 : r (.tmp 31) = .pointer (some ⟨xb, xo + i * 6, none⟩) := hd 9 31 rfl (by kernel_rfl)
          clear hs hd hg
          go_simp
          exact ⟨Below.refl _ _, rfl⟩
        · refine relOb_mk (o := ⟨some 33, _, _, _, _, _⟩) rfl (fun r V hc hf hg hs hb hd => ?_)
          have h10 : r (.tmp 32) = .pointer (some ⟨xb, xo + i * 6 + 1, none⟩) := hd 10 32 rfl (by kernel_rfl)
          clear hs hd hg
          have l := cell_later hb HE1.out
          go_simp
          exact ⟨Below.refl _ _, rfl⟩
        · refine relOb_mk (o := ⟨some 34, _, _, _, _, _⟩) rfl (fun r V hc hf hg hs hb hd => ?_)
          have x0 : r (.tmp 0) = .slice (some ⟨xb, xo, none⟩) m xc := hs 0 (by kernel_rfl)
          clear hs hd hg
          go_simp
          exact ⟨Below.refl _ _, rfl⟩
        · refine relOb_mk (o := ⟨some 35, _, _, _, _, _⟩) rfl (fun r V hc hf hg hs hb hd => ?_)
          have x6 : r (.tmp 6) = .int .i64 (i : Int) := hs 6 (by kernel_rfl)
          clear hs hd hg
          go_simp
          exact ⟨Below.refl _ _, rfl⟩
        · refine relOb_mk (o := ⟨some 36, _, _, _, _, _⟩) rfl (fun r V hc hf hg hs hb hd => ?_)
          have h12 : r (.tmp 34) = .slice (some ⟨xb, xo, none⟩) m xc := hd 12 34 rfl (by kernel_rfl)
          have h13 : r (.tmp 35) = .int .i64 (i : Int) := hd 13 35 rfl (by kernel_rfl)
          clear hs hd hg
          go_simp
          exact ⟨Below.refl _ _, rfl⟩
        · refine relOb_mk (o := ⟨some 37, _, _, _, _, _⟩) rfl (fun r V hc hf hg hs hb hd => ?_)
          have h14 : r (.tmp 36) = .pointer (some ⟨xb, xo + i * 6, none⟩) := hd 14 36 rfl (by kernel_rfl)
          clear hs hd hg
          go_simp
          exact ⟨Below.refl _ _, rfl⟩
        · refine relOb_mk (o := ⟨some 38, _, _, _, _, _⟩) rfl (fun r V hc hf hg hs hb hd => ?_)
          have h15 : r (.tmp 37) = .pointer (some ⟨xb, xo + i * 6 + 2, none⟩) := hd 15 37 rfl (by kernel_rfl)
          clear hs hd hg
          have l := cell_later hb HE2.out
          go_simp
          exact ⟨Below.refl _ _, rfl⟩
        · refine relOb_mk (o := ⟨some 39, _, _, _, _, _⟩) rfl (fun r V hc hf hg hs hb hd => ?_)
          have x0 : r (.tmp 0) = .slice (some ⟨xb, xo, none⟩) m xc := hs 0 (by kernel_rfl)
          clear hs hd hg
          go_simp
          exact ⟨Below.refl _ _, rfl⟩
        · refine relOb_mk (o := ⟨some 40, _, _, _, _, _⟩) rfl (fun r V hc hf hg hs hb hd => ?_)
          have x6 : r (.tmp 6) = .int .i64 (i : Int) := hs 6 (by kernel_rfl)
          clear hs hd hg
          go_simp
          exact ⟨Below.refl _ _, rfl⟩
        · refine relOb_mk (o := ⟨some 41, _, _, _, _, _⟩) rfl (fun r V hc hf hg hs hb hd => ?_)
          have h17 : r (.tmp 39) = .slice (some ⟨xb, xo, none⟩) m xc := hd 17 39 rfl (by kernel_rfl)
          have h18 : r (.tmp 40) = .int .i64 (i : Int) := hd 18 40 rfl (by kernel_rfl)
          clear hs hd hg
          go_simp
          exact ⟨Below.refl _ _, rfl⟩
        · refine relOb_mk (o := ⟨some 42, _, _, _, _, _⟩) rfl (fun r V hc hf hg hs hb hd => ?_)
          have h19 : r (.tmp 41) = .pointer (some ⟨xb, xo + i * 6, none⟩) := hd 19 41 rfl (by kernel_rfl)
          clear hs hd hg
          go_simp
          exact ⟨Below.refl _ _, rfl⟩
        · refine relOb_mk (o := ⟨some 43, _, _, _, _, _⟩) rfl (fun r V hc hf hg hs hb hd => ?_)
          have h20 : r (.tmp 42) = .pointer (some ⟨xb, xo + i * 6 + 3, none⟩) := hd 20 42 rfl (by kernel_rfl)
          clear hs hd hg
          have l := cell_later hb HE3.out
          go_simp
          exact ⟨Below.refl _ _, rfl⟩
        · refine relOb_mk (o := ⟨some 44, _, _, _, _, _⟩) rfl (fun r V hc hf hg hs hb hd => ?_)
          have x0 : r (.tmp 0) = .slice (some ⟨xb, xo, none⟩) m xc := hs 0 (by kernel_rfl)
          clear hs hd hg
          go_simp
          exact ⟨Below.refl _ _, rfl⟩
        · refine relOb_mk (o := ⟨some 45, _, _, _, _, _⟩) rfl (fun r V hc hf hg hs hb hd => ?_)
          have x6 : r (.tmp 6) = .int .i64 (i : Int) := hs 6 (by kernel_rfl)
          clear hs hd hg
          go_simp
          exact ⟨Below.refl _ _, rfl⟩
        · refine relOb_mk (o := ⟨some 46, _, _, _, _, _⟩) rfl (fun r V hc hf hg hs hb hd => ?_)
          have h22 : r (.tmp 44) = .slice (some ⟨xb, xo, none⟩) m xc := hd 22 44 rfl (by kernel_rfl)
          have h23 : r (.tmp 45) = .int .i64 (i : Int) := hd 23 45 rfl (by kernel_rfl)
          clear hs hd hg
          go_simp
          exact ⟨Below.refl _ _, rfl⟩
        · refine relOb_mk (o := ⟨some 47, _, _, _, _, _⟩) rfl (fun r V hc hf hg hs hb hd => ?_)
          have h24 : r (.tmp 46) = .pointer (some ⟨xb, xo + i * 6, none⟩) := hd 24 46 rfl (by kernel_rfl)
          clear hs hd hg
          go_simp
          exact ⟨Below.refl _ _, rfl⟩
        · refine relOb_mk (o := ⟨some 48, _, _, _, _, _⟩) rfl (fun r V hc hf hg hs hb hd => ?_)
          have h25 : r (.tmp 47) = .pointer (some ⟨xb, xo + i * 6 + 4, none⟩) := hd 25 47 rfl (by kernel_rfl)
          clear hs hd hg
          have l := cell_later hb HE4.out
          go_simp
          exact ⟨Below.refl _ _, rfl⟩
        · refine relOb_mk (o := ⟨some 49, _, _, _, _, _⟩) rfl (fun r V hc hf hg hs hb hd => ?_)
          have x0 : r (.tmp 0) = .slice (some ⟨xb, xo, none⟩) m xc := hs 0 (by kernel_rfl)
          clear hs hd hg
          go_simp
          exact ⟨Below.refl _ _, rfl⟩
        · refine relOb_mk (o := ⟨some 50, _, _, _, _, _⟩) rfl (fun r V hc hf hg hs hb hd => ?_)
          have x6 : r (.tmp 6) = .int .i64 (i : Int) := hs 6 (by kernel_rfl)
          clear hs hd hg
          go_simp
          exact ⟨Below.refl _ _, rfl⟩
        · refine relOb_mk (o := ⟨some 51, _, _, _, _, _⟩) rfl (fun r V hc hf hg hs hb hd => ?_)
          have h27 : r (.tmp 49) = .slice (some ⟨xb, xo, none⟩) m xc := hd 27 49 rfl (by kernel_rfl)
          have h28 : r (.tmp 50) = .int .i64 (i : Int) := hd 28 50 rfl (by kernel_rfl)
          clear hs hd hg
          go_simp
          exact ⟨Below.refl _ _, rfl⟩
        · refine relOb_mk (o := ⟨some 52, _, _, _, _, _⟩) rfl (fun r V hc hf hg hs hb hd => ?_)
          have h29 : r (.tmp 51) = .pointer (some ⟨xb, xo + i * 6, none⟩) := hd 29 51 rfl (by kernel_rfl)
          clear hs hd hg
          go_simp
          exact ⟨Below.refl _ _, rfl⟩
        · refine relOb_mk (o := ⟨some 53, _, _, _, _, _⟩) rfl (fun r V hc hf hg hs hb hd => ?_)
          have h30 : r (.tmp 52) = .pointer (some ⟨xb, xo + i * 6 + 5, none⟩) := hd 30 52 rfl (by kernel_rfl)
          clear hs hd hg
          have l := cell_later hb HE5.out
          go_simp
          exact ⟨Below.refl _ _, rfl⟩
        · refine relOb_mk (o := ⟨some 54, _, _, _, _, _⟩) rfl (fun r V hc hf hg hs hb hd => ?_)
          have h6 : r (.tmp 28) = .int .u64 (x.t : Int) := hd 6 28 rfl (by kernel_rfl)
          have h11 : r (.tmp 33) = .int .u64 (x.f : Int) := hd 11 33 rfl (by kernel_rfl)
          have h16 : r (.tmp 38) = .int .u64 (x.a : Int) := hd 16 38 rfl (by kernel_rfl)
          have h21 : r (.tmp 43) = .int .u32 (x.n : Int) := hd 21 43 rfl (by kernel_rfl)
          have h26 : r (.tmp 48) = .int .u32 (x.r : Int) := hd 26 48 rfl (by kernel_rfl)
          have h31 : r (.tmp 53) = .int .u64 (x.c : Int) := hd 31 53 rfl (by kernel_rfl)
          clear hs hd hg
          go_simp
          exact ⟨Below.refl _ _, rfl⟩
        · refine relOb_mk (o := ⟨some 55, _, _, _, _, _⟩) rfl (fun r V hc hf hg hs hb hd => ?_)
          have h32 : r (.tmp 54) = .agg #[.int .u64 (x.t : Int), .int .u64 (x.f : Int), .int .u64 (x.a : Int), .int .u32 (x.n : Int), .int .u32 (x.r : Int), .int .u64 (x.c : Int)] := hd 32 54 rfl (by kernel_rfl)
          clear hs hd hg
          go_simp
          exact ⟨below1 V _, ⟨_, rfl, alloc1 V _ (Below.refl _ _)⟩⟩
      · intro a V hb hx
        have h0 : a.eval (.tmp 22) = .pointer (some ⟨g5, 0, none⟩) := hx 0 22 rfl rfl
        have h1 : a.eval (.tmp 23) = vr := hx 1 23 rfl rfl
        have h2 : a.eval (.tmp 24) = .slice (some ⟨xb, xo, none⟩) m xc := hx 2 24 rfl rfl
        have h3 : a.eval (.tmp 25) = .int .i64 (i : Int) := hx 3 25 rfl rfl
        have h4 : a.eval (.tmp 26) = .pointer (some ⟨xb, xo + i * 6, none⟩) := hx 4 26 rfl rfl
        have h5 : a.eval (.tmp 27) = .pointer (some ⟨xb, xo + i * 6, none⟩) := hx 5 27 rfl rfl
        have h6 : a.eval (.tmp 28) = .int .u64 (x.t : Int) := hx 6 28 rfl rfl
        have h7 : a.eval (.tmp 29) = .slice (some ⟨xb, xo, none⟩) m xc := hx 7 29 rfl rfl
        have h8 : a.eval (.tmp 30) = .int .i64 (i : Int) := hx 8 30 rfl rfl
        have h9 : a.eval (.tmp 31) = .pointer (some ⟨xb, xo + i * 6, none⟩) := hx 9 31 rfl rfl
        have h10 : a.eval (.tmp 32) = .pointer (some ⟨xb, xo + i * 6 + 1, none⟩) := hx 10 32 rfl rfl
        have h11 : a.eval (.tmp 33) = .int .u64 (x.f : Int) := hx 11 33 rfl rfl
        have h12 : a.eval (.tmp 34) = .slice (some ⟨xb, xo, none⟩) m xc := hx 12 34 rfl rfl
        have h13 : a.eval (.tmp 35) = .int .i64 (i : Int) := hx 13 35 rfl rfl
        have h14 : a.eval (.tmp 36) = .pointer (some ⟨xb, xo + i * 6, none⟩) := hx 14 36 rfl rfl
        have h15 : a.eval (.tmp 37) = .pointer (some ⟨xb, xo + i * 6 + 2, none⟩) := hx 15 37 rfl rfl
        have h16 : a.eval (.tmp 38) = .int .u64 (x.a : Int) := hx 16 38 rfl rfl
        have h17 : a.eval (.tmp 39) = .slice (some ⟨xb, xo, none⟩) m xc := hx 17 39 rfl rfl
        have h18 : a.eval (.tmp 40) = .int .i64 (i : Int) := hx 18 40 rfl rfl
        have h19 : a.eval (.tmp 41) = .pointer (some ⟨xb, xo + i * 6, none⟩) := hx 19 41 rfl rfl
        have h20 : a.eval (.tmp 42) = .pointer (some ⟨xb, xo + i * 6 + 3, none⟩) := hx 20 42 rfl rfl
        have h21 : a.eval (.tmp 43) = .int .u32 (x.n : Int) := hx 21 43 rfl rfl
        have h22 : a.eval (.tmp 44) = .slice (some ⟨xb, xo, none⟩) m xc := hx 22 44 rfl rfl
        have h23 : a.eval (.tmp 45) = .int .i64 (i : Int) := hx 23 45 rfl rfl
        have h24 : a.eval (.tmp 46) = .pointer (some ⟨xb, xo + i * 6, none⟩) := hx 24 46 rfl rfl
        have h25 : a.eval (.tmp 47) = .pointer (some ⟨xb, xo + i * 6 + 4, none⟩) := hx 25 47 rfl rfl
        have h26 : a.eval (.tmp 48) = .int .u32 (x.r : Int) := hx 26 48 rfl rfl
        have h27 : a.eval (.tmp 49) = .slice (some ⟨xb, xo, none⟩) m xc := hx 27 49 rfl rfl
        have h28 : a.eval (.tmp 50) = .int .i64 (i : Int) := hx 28 50 rfl rfl
        have h29 : a.eval (.tmp 51) = .pointer (some ⟨xb, xo + i * 6, none⟩) := hx 29 51 rfl rfl
        have h30 : a.eval (.tmp 52) = .pointer (some ⟨xb, xo + i * 6 + 5, none⟩) := hx 30 52 rfl rfl
        have h31 : a.eval (.tmp 53) = .int .u64 (x.c : Int) := hx 31 53 rfl rfl
        have h32 : a.eval (.tmp 54) = .agg #[.int .u64 (x.t : Int), .int .u64 (x.f : Int), .int .u64 (x.a : Int), .int .u32 (x.n : Int), .int .u32 (x.r : Int), .int .u64 (x.c : Int)] := hx 32 54 rfl rfl
        have h33 : (fun v V => ∃ g, v = .slice (some ⟨g, 0, none⟩) 1 1 ∧ V.heap[g]? = some (.cells #[.int .u64 (x.t : Int), .int .u64 (x.f : Int), .int .u64 (x.a : Int), .int .u32 (x.n : Int), .int .u32 (x.r : Int), .int .u64 (x.c : Int)] 50)) (a.eval (.tmp 55)) V := hx 33 55 rfl rfl
        obtain ⟨v55, e55⟩ : ∃ v, a.eval (.tmp 55) = v := ⟨_, rfl⟩
        rw [e55] at h33
        unfold fillAll
        simp only [List.foldl_cons, List.foldl_nil, h0, h1, h2, h3, h4, h5, h6, h7, h8, h9, h10, h11, h12, h13, h14, h15, h16, h17, h18, h19, h20, h21, h22, h23, h24, h25, h26, h27, h28, h29, h30, h31, h32, e55, Act.put, List.setIfInBounds_toArray, List.set_cons_zero, List.set_cons_succ]
        clear h0 h1 h2 h3 h4 h5 h6 h7 h8 h9 h10 h11 h12 h13 h14 h15 h16 h17 h18 h19 h20 h21 h22 h23 h24 h25 h26 h27 h28 h29 h30 h31 h32 e55 hx
        obtain ⟨gn, rfl, hqn⟩ := h33
        have HBV := Lib.hid (below_on HB.out hb)
        have HQN := Lib.hid hqn
        have HOW := Lib.hid (own_below hb HO.out)
        have HQW := Lib.hid (blk_keep hb HQV.out)
        clear hb hqn
        obtain ⟨XS, hXS⟩ : ∃ X, (R.take i).flatMap mkC = X := ⟨_, rfl⟩
        obtain ⟨q, hq9⟩ : ∃ q, (R.take i).length = q := ⟨_, rfl⟩
        have hq1 : q ≤ 100 := by rw [← hq9, List.length_take]; have := HLT.out; have := HM.out; omega
        have HXS := Lib.hid hXS
        have HQQ := Lib.hid hq9
        rw [hXS, hq9] at HOW
        clear hXS hq9
        have hsz : g5 + 1 ≤ V.heap.size := blk_lt HQW.out
        have HSR : Hid (SrcAt V (some ⟨gn, 0, none⟩) 1 [.int .u64 (x.t : Int), .int .u64 (x.f : Int), .int .u64 (x.a : Int), .int .u32 (x.n : Int), .int .u32 (x.r : Int), .int .u64 (x.c : Int)]) := Lib.hid (src_blk HQN.out rfl (mk_one x))
        obtain ⟨i0, hi, hz0, hz1, hz2⟩ := info_parts info_mkr
        refine wpAny_ready (rs := [34]) (by kernel_rfl) (by simp) (AllReady.cons (o := ⟨some 56, _, _, _, _, _⟩) rfl (fun K hK => ?_) AllReady.nil)
        refine step_append_src rfl (.tmp 23) (.tmp 55) 40 rfl (g5 + 1) 50 i0 (.agg #[.int .u64 0, .int .u64 0, .int .u64 0, .int .u32 0, .int .u32 0, .int .u64 0]) 6 40 Try.underlying40 hi hz0 hz1 hz2 rfl (by decide) vr q XS rfl HOW.out (some ⟨gn, 0, none⟩) 1 1 [.int .u64 (x.t : Int), .int .u64 (x.f : Int), .int .u64 (x.a : Int), .int .u32 (x.n : Int), .int .u32 (x.r : Int), .int .u64 (x.c : Int)] rfl rfl HSR.out (by unfold maxLen; omega) (by omega) hsz ?_
        intro v5 W5 hown5 hg5
        obtain ⟨a5, c5, rfl⟩ := k_sh hown5
        have HQ65 := Lib.hid (grown_keep hg5 HQW.out (fun hk => by have := (HOW.out.lt _ hk).1; omega))
        have HB5 : Hid (Below w.heap.size w W5) := Lib.hid (HBV.out.grown hg5 HBV.out.size (fun k hk => by have := (HOW.out.lt _ hk).1; have := HG5.out; omega))
        have HO5 := Lib.hid hown5
        clear hown5 hg5
        refine hK _ _ ?_
        clear hK K hsz
        simp only [Act.put, List.setIfInBounds_toArray, List.set_cons_zero, List.set_cons_succ]
        refine wpAny_ready (rs := [35]) (by kernel_rfl) (by simp) (AllReady.cons (o := ⟨some 57, _, _, _, _, _⟩) rfl (fun K hK => ?_) AllReady.nil)
        go_simp
        refine hK _ _ ?_
        clear hK K
        refine wpAny_ready (rs := [36]) (by kernel_rfl) (by simp) (AllReady.cons (o := ⟨none, _, _, _, _, _⟩) rfl (fun K hK => ?_) AllReady.nil)
        have c0 := blk_cell HQ65.out 0 _ rfl
        have f0 := blk_free HQ65.out 0
        have hl := blk_lt HQ65.out
        go_simp
        clear c0 f0 hl
        refine name_K ?_
        intro W6 hW6
        have ho6 : Only g5 W5 W6 := by rw [hW6]; exact (Only.refl g5 W5).setCell rfl _
        have HQ6 : Hid (W6.heap[g5]? = some (.cells #[.slice a5 (q + 1) c5, .slice none 0 0, .int .u64 0, .int .u32 0, .int .u64 0] 42)) := Lib.hid (by rw [hW6]; exact blk_set HQ65.out 0 _)
        have HB6 : Hid (Below w.heap.size w W6) := Lib.hid (Only.below HB5.out HG5.out HB5.out.size ho6)
        have HO6 : Hid (W6.ownsRow (g5 + 1) 50 6 (.slice a5 (q + 1) c5) (R.take (i + 1)).length ((R.take (i + 1)).flatMap mkC)) := Lib.hid (by
          have h := (WX.of_only (X := fun y => y = g5) ho6 rfl).own HO5.out (fun k hk e => by have := (World.ownsRow.lt HO5.out _ hk).1; omega)
          rw [show R.take (i + 1) = R.take i ++ [x] by rw [List.take_add_one, HX.out]; rfl]
          refine k_snoc (x := x) rfl ?_
          rw [HXS.out, HQQ.out]
          exact h)
        clear hW6 ho6 hq1
        refine hK _ _ ?_
        clear hK K
        refine wpAny_done (by kernel_rfl) ?_ _
        go_wp2_with fail
        rw [← HXX.out]
        go_roundg (m - (i + 1))
        case rel => exact ⟨i + 1, _, k_next HI.out HLT.out, by go_num, HQ6.out, HO6.out, HB6.out⟩
        case measure => exact k_less HI.out HLT.out
    · have d2 : ¬ (i : Int) < m := by omega
      have him : i = m := by have := HI.out; omega
      have ho := HO.out
      rw [him, show R.take m = R by rw [← HLEN.out]; exact List.take_length] at ho
      obtain ⟨ar, cr, rfl⟩ := k_sh ho
      obtain ⟨a2, c2, hv2, hs2⟩ := own_sl (l := R) mk_len rfl ho
      simp only [Value.slice.injEq, true_and] at hv2
      obtain ⟨rfl, rfl⟩ := hv2
      have HRS := Lib.hid hs2.row
      have HQV2 := HQV
      rw [HLEN.out] at HQV2
      clear ho him hlt hs2 HQV
      go_upto_region 9 with fail
      have hbx := below1 wr (.cells #[.slice xa m xc, .slice none 0 0, .int .u64 0, .int .u32 0, .int .u64 0] 36)
      have hqx := alloc1 wr (.cells #[.slice xa m xc, .slice none 0 0, .int .u64 0, .int .u32 0, .int .u64 0] 36) (Below.refl _ _)
      obtain ⟨w1, hw1⟩ : ∃ V, V = wr.alloc (.cells #[.slice xa m xc, .slice none 0 0, .int .u64 0, .int .u32 0, .int .u64 0] 36) := ⟨_, rfl⟩
      rw [← hw1] at hbx hqx ⊢
      obtain ⟨g7, hg7⟩ : ∃ g, g = wr.heap.size := ⟨_, rfl⟩
      rw [← hg7] at hqx ⊢
      have HQ7 := Lib.hid hqx
      have HQ5 := Lib.hid (blk_keep hbx HQV2.out)
      have HB1 := Lib.hid (below_on HB.out hbx)
      have HRS1 := Lib.hid (HRS.out.below hbx)
      clear hbx hqx hw1 hg7
      obtain ⟨za, hza⟩ : ∃ z, orS Mk.n R r m = z := ⟨_, rfl⟩
      obtain ⟨zb, hzb⟩ : ∃ z, orS Mk.r R r m = z := ⟨_, rfl⟩
      obtain ⟨zc, hzc⟩ : ∃ z, orS Mk.c R r m = z := ⟨_, rfl⟩
      have HZ := Lib.hid (And.intro hza (And.intro hzb hzc))
      clear hza hzb hzc
      have HM5 : Hid (m ≤ 100000) := Lib.hid (Nat.le_trans HM.out (by decide))
      have y0 := blk_cell HQ7.out 0 _ rfl; have y1 := blk_cell HQ7.out 1 _ rfl; have y2 := blk_cell HQ7.out 2 _ rfl; have y3 := blk_cell HQ7.out 3 _ rfl; have y4 := blk_cell HQ7.out 4 _ rfl
      go_wp2_with fail
      refine (need_is za zb R xa none m 0 xc 0 0 0 0 r HOK.out HR.out HM5.out HLEN.out _ (HROW.out.below HB1.out) HZ.out.1 HZ.out.2.1).mono ?_
      rintro e w2 ⟨rfl, hb⟩
      have HB2 := Lib.hid (below_on HB1.out hb)
      have HQ72 := Lib.hid (blk_keep hb HQ7.out)
      have HQ52 := Lib.hid (blk_keep hb HQ5.out)
      have HRS2 := Lib.hid (HRS1.out.below hb)
      clear hb y0 y1 y2 y3 y4
      have y0 := blk_cell HQ52.out 0 _ rfl; have y1 := blk_cell HQ52.out 1 _ rfl; have y2 := blk_cell HQ52.out 2 _ rfl; have y3 := blk_cell HQ52.out 3 _ rfl; have y4 := blk_cell HQ52.out 4 _ rfl
      go_wp2_with fail
      refine (rneed_is za zb R ar none m 0 cr 0 0 0 0 r HOK.out HR.out HM5.out HLEN.out _ HRS2.out HZ.out.1 HZ.out.2.1).mono ?_
      rintro e w3 ⟨rfl, hb⟩
      have HB3 := Lib.hid (below_on HB2.out hb)
      have HQ7x := Lib.hid (blk_keep hb HQ72.out)
      have HQ5x := Lib.hid (blk_keep hb HQ52.out)
      have HRS3 := Lib.hid (HRS2.out.below hb)
      clear hb y0 y1 y2 y3 y4
      have KC : Hid (∀ w', Below w3.heap.size w3 w' → Calls Try.prog 16 #[.agg #[.slice xa m xc, .slice none 0 0, .int .u64 0, .int .u32 0, .int .u64 0], .int .u64 (r : Int)] w' fun e w'' => e = .returned (.int .u64 (zc : Int)) ∧ Below w3.heap.size w3 w'') := Lib.hid (fun w' hw' => (clash_is zc R xa none m 0 xc 0 0 0 0 r HOK.out HR.out HM5.out HLEN.out w' (HROW.out.below (below_on HB3.out hw')) HZ.out.2.2).mono (fun _ _ h => ⟨h.1, below_on hw' h.2⟩))
      have KD : Hid (∀ w', Below w3.heap.size w3 w' → Calls Try.prog 17 #[.agg #[.slice ar m cr, .slice none 0 0, .int .u64 0, .int .u32 0, .int .u64 0], .int .u64 (r : Int)] w' fun e w'' => e = .returned (.int .u64 (zc : Int)) ∧ Below w3.heap.size w3 w'') := Lib.hid (fun w' hw' => (rclash_is zc R ar none m 0 cr 0 0 0 0 r HOK.out HR.out HM5.out HLEN.out w' (HRS3.out.below hw') HZ.out.2.2).mono (fun _ _ h => ⟨h.1, below_on hw' h.2⟩))
      have KW : Hid (∀ w', Below w3.heap.size w3 w' → Calls Try.prog 8 #[] w' fun e w'' => e = .returned (.bool true) ∧ Below w3.heap.size w3 w'') := Lib.hid (fun w' hw' => (mworks_is w').mono (fun _ _ h => ⟨h.1, below_on hw' h.2⟩))
      go_upto_region 11 with fail
      refine wp_region_calm (by kernel_rfl) ?_ ?_
      · kernel_rfl
      repeat first
       | go_big_quiet_skip
       | (go_big_quiet_want; go_big_quiet_op; go_big_quiet_on)
       | (with_reducible apply wpQuiet_step
          intro K hK
          go_simp
          first
            | (refine hK _ ?_; clear hK K)
            | (apply Exists.intro
               refine ⟨fun w' hw' => ?_, hK _ ?_⟩
               ·
                 (first
                  | with_reducible exact KC.out _ hw'
                  | with_reducible exact KD.out _ hw'
                  | with_reducible exact KW.out _ hw'
                  | (have g0 := blk_cell (blk_keep hw' HQ7x.out) 0 _ rfl
                     have g1 := blk_cell (blk_keep hw' HQ7x.out) 1 _ rfl
                     have g2 := blk_cell (blk_keep hw' HQ7x.out) 2 _ rfl
                     have g3 := blk_cell (blk_keep hw' HQ7x.out) 3 _ rfl
                     have g4 := blk_cell (blk_keep hw' HQ7x.out) 4 _ rfl
                     go_simp
                     first | done | with_reducible exact rfl | with_reducible exact ⟨rfl, rfl⟩ | with_reducible exact KC.out _ hw' | with_reducible exact KD.out _ hw' | with_reducible exact KW.out _ hw')
                  | (have g0 := blk_cell (blk_keep hw' HQ5x.out) 0 _ rfl
                     have g1 := blk_cell (blk_keep hw' HQ5x.out) 1 _ rfl
                     have g2 := blk_cell (blk_keep hw' HQ5x.out) 2 _ rfl
                     have g3 := blk_cell (blk_keep hw' HQ5x.out) 3 _ rfl
                     have g4 := blk_cell (blk_keep hw' HQ5x.out) 4 _ rfl
                     go_simp
                     first | done | with_reducible exact rfl | with_reducible exact ⟨rfl, rfl⟩ | with_reducible exact KC.out _ hw' | with_reducible exact KD.out _ hw' | with_reducible exact KW.out _ hw'))
               clear hK K))
      refine wpQuiet_nil ?_
      intro w7 hw7
      have HB7 := Lib.hid (below_on HB3.out hw7)
      clear hw7
      go_wp2_with fail
      go_ret
      exact ⟨rfl, HB7.out⟩
theorem walk_MasksNeed (a0 : Option Addr) (len0 cap0 : Nat) (a1 : Int) (w : World) (w0 : Rd Try.prog w 31 [.slice a0 len0 cap0]) (w1 : (Lit.int .u64 a1).wf = true) :
    Calls Try.prog 4 #[.slice a0 len0 cap0, .int .u64 a1] w fun e w' => e = .returned (.bool true) ∧ Below w.heap.size w w' := by
  obtain ⟨X, hx, hX, hok⟩ := mks_of w0
  obtain ⟨r, rfl, hr⟩ := k_u64 w1
  unfold Sl.v at hx
  simp only [List.cons.injEq, Value.slice.injEq, and_true] at hx
  obtain ⟨rfl, rfl, rfl⟩ := hx
  exact masksNeed_is X.l X.a X.l.length X.c r hok hr rfl w hX.row
end Go.Proofs.Ytififkielmddpaa
