/-
  Layer 08: masks.Make.
-/
import Derived.Test.YtififkielmddpaaMkC
import Derived.Test.YtififkielmddpaaRel
namespace Go.Proofs.Ytififkielmddpaa
open Go.RowKit
set_option maxRecDepth 100000
theorem hT_row {w1 : World} {L : Lay} {ta : Option Addr} {tc n4 : Nat} (h : SlAt 1 u64C w1 ⟨ta, tc, tabL L⟩) (e : tabL L = tabS L) : ∀ i, i < n4 → ∃ b off, (L.rt.l.length = n4 → ta = some ⟨b, off, none⟩) ∧ (L.rt.l.length = n4 → w1.cell? ⟨b, off + i, none⟩ = some (.int .u64 (rowS L i : Int))) := by
  intro i hi
  rcases h.row with hnil | ⟨b, off, hb, hc⟩
  · refine ⟨0, 0, fun hn => ?_, fun hn => ?_⟩
    all_goals
      dsimp only at hnil
      rw [e] at hnil
      have := tabS_len L
      rw [hnil] at this
      simp at this
      omega
  · refine ⟨b, off, fun _ => hb, fun hn => ?_⟩
    have := hc i (rowS L i) (by show (tabL L)[i]? = _; rw [e]; exact tabS_get (by omega)) 0 _ rfl
    rw [Nat.mul_one, Nat.add_zero] at this
    exact this
theorem info_mk : (Try.prog.info? 49).map (fun i => (i.zero, i.size, i.bytes)) = some (some (.agg #[.int .u64 0, .int .u64 0, .int .u64 0, .int .u32 0, .int .u32 0, .int .u64 0]), 6, 40) := by kernel_rfl
theorem WX.trans_grown {X : Nat → Prop} {a b c : World} {row : Option Nat} (h : WX X a b) (hg : b.grownBy c row) (hr : ∀ k, row = some k → a.heap.size ≤ k) : WX X a c :=
  ⟨hg.os.trans h.os, hg.tape.trans h.tape, hg.output.trans h.output, Nat.le_trans h.size hg.size, fun i hi hx => (hg.block i (Nat.lt_of_lt_of_le hi h.size) (fun e => by have := hr i e.symm; omega)).trans (h.block i hi hx)⟩
theorem withI_nat {s p : Nat} (h : p ≤ 31) : withI s (p : Int) = withBit s p := by rw [withI_in s p (by omega), Int.toNat_natCast]
theorem shl32 {p : Nat} (h : p ≤ 31) : IntKind.u32.wrap ((2 : Int) ^ p) = ((pw p : Nat) : Int) := by
  have h1 : pw p ≤ pw 31 := Nat.pow_le_pow_right (by omega) h
  have h2 : pw 31 = 2147483648 := by decide
  have h3 : ((2 : Int) ^ p) = ((pw p : Nat) : Int) := by rw [pw_eq]; simp
  rw [h3, IntKind.wrap_u32]; omega
attribute [local irreducible] Sl.v hasBit mayS Rt.tr Rt.nd checkS pw withBit withI ofN oneI sideL sideS firstS aheadS secOf rowS tabS tabL mkR mkF mksS liesS mksL liesL allL ptsL trsL formedS badS conflictS

set_option maxHeartbeats 8000000 in
theorem make_is (L : Lay) (w : World) (hL : LayAt w L) :
    Calls Try.prog 10 #[.agg #[L.se.v, L.po.v, L.sg.v, L.rt.v]] w fun e w' => ∃ xa xc ya yc m n, e = .returned (.tuple #[.agg #[.slice xa m xc, .slice ya n yc, .int .u64 (allL L : Int), .int .u32 (ptsL L : Int), .int .u64 (trsL L : Int)], .int .i64 (checkS L).1]) ∧ m = (mksL L).length ∧ n = (liesL L).length ∧ RowAt 6 mkC w' xa (mksL L) ∧ RowAt 1 u64C w' ya (liesL L) ∧ Below w.heap.size w w' := by
  obtain ⟨c, hc1⟩ : ∃ c, (checkS L).1 = c := ⟨_, rfl⟩
  have HC1 := Lib.hid hc1
  have HTB : Hid (∀ W, Below w.heap.size w W → Calls Try.prog 20 #[.agg #[L.se.v, L.po.v, L.sg.v, L.rt.v]] W fun e w' => ∃ a m d, e = .returned (.tuple #[.slice a m d, .int .i64 c]) ∧ m = (tabL L).length ∧ SlAt 1 u64C w' ⟨a, d, tabL L⟩ ∧ Below W.heap.size W w') := Lib.hid (fun W hW => hc1 ▸ table_is L W (hL.below hW))
  have HLW := Lib.hid hL
  obtain ⟨n1, hn1⟩ : ∃ n, L.se.l.length = n := ⟨_, rfl⟩
  obtain ⟨n2, hn2⟩ : ∃ n, L.po.l.length = n := ⟨_, rfl⟩
  obtain ⟨n3, hn3⟩ : ∃ n, L.sg.l.length = n := ⟨_, rfl⟩
  obtain ⟨n4, hn4⟩ : ∃ n, L.rt.l.length = n := ⟨_, rfl⟩
  have HN1 := Lib.hid hn1
  have HN2 := Lib.hid hn2
  have HN3 := Lib.hid hn3
  have HN4 := Lib.hid hn4
  rw [hc1]
  rw [slv hn1, slv hn2, slv hn3, slv hn4] at HTB ⊢
  clear hn1 hn2 hn3 hn4 hL hc1
  go_enter Try.func10, Try.ntmps10
  go_upto_region 1 with fail
  refine name_last (os := [.cells #[.slice L.se.a n1 L.se.c, .slice L.po.a n2 L.po.c, .slice L.sg.a n3 L.sg.c, .slice L.rt.a n4 L.rt.c] 27, .cells #[.slice none 0 0, .slice none 0 0, .int .u64 0, .int .u32 0, .int .u64 0] 36]) (w0 := w) rfl ?_
  intro W hat hbw
  obtain ⟨gl, hgl⟩ : ∃ g, g = w.heap.size := ⟨_, rfl⟩
  obtain ⟨g2, hg2⟩ : ∃ g, g = gl + 1 := ⟨_, rfl⟩
  have q0 := hat 0 _ rfl
  have q1 := hat 1 _ rfl
  rw [Nat.add_zero, ← hgl] at q0
  rw [← hgl, ← hg2] at q1
  rw [← hgl, ← hg2]
  have HQL := Lib.hid q0
  have HQ2 := Lib.hid q1
  have HB0 := Lib.hid hbw
  have HGE : Hid (w.heap.size ≤ g2) := Lib.hid (by omega)
  clear hat hbw q0 q1 hgl hg2
  obtain ⟨l0, l1, l2, l3⟩ := k_box HQL.out
  go_wp2_with fail
  refine (HTB.out _ HB0.out).mono ?_
  rintro e w1 ⟨ta, tm, tc, rfl, htm, hT, hb⟩
  have HB1 := Lib.hid (below_on HB0.out hb)
  have HQL1 := Lib.hid (blk_keep hb HQL.out)
  have HQ21 := Lib.hid (blk_keep hb HQ2.out)
  have HT := Lib.hid hT
  have HTM := Lib.hid htm
  clear hb l0 l1 l2 l3 hT htm
  by_cases hc0 : c = 0
  rotate_left
  · have hcn : (c != 0) = true := by rw [bne_iff_ne]; exact hc0
    have HT0 : Hid (mksL L = [] ∧ liesL L = [] ∧ allL L = 0 ∧ ptsL L = 0 ∧ trsL L = 0) := Lib.hid (by
      have := HC1.out
      unfold mksL liesL allL ptsL trsL
      rw [this, if_neg hc0, if_neg hc0, if_neg hc0, if_neg hc0, if_neg hc0]
      exact ⟨rfl, rfl, rfl, rfl, rfl⟩)
    have c0 := blk_cell HQ21.out 0 _ rfl
    have f0 := blk_free HQ21.out 0
    have c1 := blk_cell HQ21.out 1 _ rfl
    have f1 := blk_free HQ21.out 1
    have c2 := blk_cell HQ21.out 2 _ rfl
    have f2 := blk_free HQ21.out 2
    have c3 := blk_cell HQ21.out 3 _ rfl
    have f3 := blk_free HQ21.out 3
    have c4 := blk_cell HQ21.out 4 _ rfl
    have f4 := blk_free HQ21.out 4
    have hl := blk_lt HQ21.out
    go_wp2_with fail
    clear c0 f0 c1 f1 c2 f2 c3 f3 c4 f4 hl
    refine name_any ?_
    intro WZ hWZ
    have ho : Only g2 w1 WZ := by rw [hWZ]; exact (((((Only.refl g2 w1).setCell rfl _).setCell rfl _).setCell rfl _).setCell rfl _).setCell rfl _
    have hqz : WZ.heap[g2]? = some (.cells #[.slice none 0 0, .slice none 0 0, .int .u64 0, .int .u32 0, .int .u64 0] 36) := by rw [hWZ]; exact blk_set (blk_set (blk_set (blk_set (blk_set HQ21.out 0 _) 1 _) 2 _) 3 _) 4 _
    have hbz : Below w.heap.size w WZ := Only.below HB1.out HGE.out HB1.out.size ho
    have e0 := blk_cell hqz 0 _ rfl
    have e1 := blk_cell hqz 1 _ rfl
    have e2 := blk_cell hqz 2 _ rfl
    have e3 := blk_cell hqz 3 _ rfl
    have e4 := blk_cell hqz 4 _ rfl
    clear hWZ ho hqz
    refine bodyPost_ret (v := .tuple #[.agg #[.slice none 0 0, .slice none 0 0, .int .u64 0, .int .u32 0, .int .u64 0], .int .i64 c]) (by simp [results, Try.results10, go_sem, e0, e1, e2, e3, e4]) rfl ?_
    obtain ⟨t1, t2, t3, t4, t5⟩ := HT0.out
    rw [t1, t2, t3, t4, t5]
    exact ⟨none, 0, none, 0, 0, 0, rfl, rfl, rfl, .inl rfl, .inl rfl, hbz⟩
  subst hc0
  have HM : Hid (mayS L = true) := Lib.hid (cs_zero HC1.out)
  have hsm := mayS_small HM.out
  have hn1 := HN1.out
  have hn2 := HN2.out
  have hn4 := HN4.out
  obtain ⟨al, h4⟩ : ∃ x, pw n4 - 1 = x := ⟨_, rfl⟩
  obtain ⟨pt, h2⟩ : ∃ x, pw n2 - 1 = x := ⟨_, rfl⟩
  obtain ⟨tr, h1⟩ : ∃ x, pw n1 - 1 = x := ⟨_, rfl⟩
  have HALL : Hid (mksL L = mksS L ∧ liesL L = liesS L ∧ allL L = al ∧ ptsL L = pt ∧ trsL L = tr) := Lib.hid (by
    unfold mksL liesL allL ptsL trsL
    rw [HC1.out, if_pos rfl, if_pos rfl, if_pos rfl, if_pos rfl, if_pos rfl, hn1, hn2, hn4]
    exact ⟨rfl, rfl, h4, h2, h1⟩)
  have HF1 : Hid (∀ V, Calls Try.prog 21 #[.int .i64 (n1 : Int)] V fun e w' => e = .returned (.int .u64 (tr : Int)) ∧ V = w') := Lib.hid (fun V => h1 ▸ bfirst_any n1 n1 V (by omega))
  have HF2 : Hid (∀ V, Calls Try.prog 21 #[.int .i64 (n2 : Int)] V fun e w' => e = .returned (.int .u64 (pt : Int)) ∧ V = w') := Lib.hid (fun V => h2 ▸ bfirst_any n2 n2 V (by omega))
  have HF4 : Hid (∀ V, Calls Try.prog 21 #[.int .i64 (n4 : Int)] V fun e w' => e = .returned (.int .u64 (al : Int)) ∧ V = w') := Lib.hid (fun V => h4 ▸ bfirst_any n4 n4 V (by omega))
  have hp2 : pw n2 ≤ 4294967296 := by
    have := Nat.pow_le_pow_right (n := 2) (show 0 < 2 by omega) (show n2 ≤ 32 by omega)
    rw [pw_eq]; simpa using this
  have HW2 : Hid (IntKind.u32.wrap (pt : Int) = (pt : Int)) := Lib.hid (by rw [IntKind.wrap_u32]; have := pw_pos n2; omega)
  have HS4 : Hid (n4 ≤ 64) := Lib.hid (by omega)
  have HS2 : Hid (n2 ≤ 32) := Lib.hid (by omega)
  have HTT : Hid (tabL L = tabS L ∧ tm = n4) := Lib.hid (by
    have e : tabL L = tabS L := by unfold tabL; rw [HC1.out, if_pos rfl]
    exact ⟨e, by rw [HTM.out, e, tabS_len, hn4]⟩)
  clear hp2 hsm hn1 hn2 hn4 h1 h2 h4
  go_upto_region 4 with fail
  refine wp_region_rel (by kernel_rfl) [15] 12 [0, 1, 2, 3, 4, 5, 6, 7, 8, 9, 10, 11, 12, 13, 14] [23, 24, 25, 26, 27, 28, 29, 30, 31, 32, 33, 34, 35, 36, 6] #[true, true, true, true, true, true, true, true, true, true, true, true, true, true, true, false] 1 [(fun v _ => v = .pointer (some ⟨gl, 3, none⟩)), (fun v _ => v = .slice L.rt.a n4 L.rt.c), (fun v _ => v = .int .i64 (n4 : Int)), (fun v _ => v = .int .u64 (al : Int)), (fun v _ => v = .pointer (some ⟨gl, 1, none⟩)), (fun v _ => v = .slice L.po.a n2 L.po.c), (fun v _ => v = .int .i64 (n2 : Int)), (fun v _ => v = .int .u64 (pt : Int)), (fun v _ => v = .int .u32 (pt : Int)), (fun v _ => v = .pointer (some ⟨gl, 0, none⟩)), (fun v _ => v = .slice L.se.a n1 L.se.c), (fun v _ => v = .int .i64 (n1 : Int)), (fun v _ => v = .int .u64 (tr : Int)), (fun v _ => v = .agg #[.slice none 0 0, .slice none 0 0, .int .u64 (al : Int), .int .u32 (pt : Int), .int .u64 (tr : Int)]), (fun v V => ∃ g, v = .pointer (some ⟨g, 0, none⟩) ∧ V.heap[g]? = some (.cells #[.slice none 0 0, .slice none 0 0, .int .u64 0, .int .u32 0, .int .u64 0] 36) ∧ w1.heap.size ≤ g), (fun _ _ => True)] (by kernel_rfl) (by kernel_rfl) (by kernel_rfl) (by kernel_rfl) (by kernel_rfl) rfl (by kernel_rfl) rfl ?_ ?_ ?_
  · exact ⟨stays_is _, stays_is _, stays_is _, stays_is _, stays_is _, stays_is _, stays_is _, stays_is _, stays_is _, stays_is _, stays_is _, stays_is _, stays_is _, stays_is _, (fun v W W2 h hb => by obtain ⟨g, h1, h2, h3⟩ := h; exact ⟨g, h1, blk_keep hb h2, h3⟩), stays_true, trivial⟩
  · refine ⟨?_, ?_, ?_, ?_, ?_, ?_, ?_, ?_, ?_, ?_, ?_, ?_, ?_, ?_, ?_, trivial⟩
    · refine relOb_mk (o := ⟨some 23, _, _, _, _, _⟩) rfl (fun r V hc hf hg hs hb hd => ?_)
      have x1 : r (.tmp 1) = .pointer (some ⟨gl, 0, none⟩) := hs 1 (by kernel_rfl)
      clear hs hd hg
      go_simp
      exact ⟨Below.refl _ _, rfl⟩
    · refine relOb_mk (o := ⟨some 24, _, _, _, _, _⟩) rfl (fun r V hc hf hg hs hb hd => ?_)
      have h0 : r (.tmp 23) = .pointer (some ⟨gl, 3, none⟩) := hd 0 23 rfl (by kernel_rfl)
      clear hs hd hg
      have l := blk_cell (blk_keep hb HQL1.out) 3 _ rfl
      go_simp
      exact ⟨Below.refl _ _, rfl⟩
    · refine relOb_mk (o := ⟨some 25, _, _, _, _, _⟩) rfl (fun r V hc hf hg hs hb hd => ?_)
      have h1 : r (.tmp 24) = .slice L.rt.a n4 L.rt.c := hd 1 24 rfl (by kernel_rfl)
      clear hs hd hg
      go_simp
      exact ⟨Below.refl _ _, rfl⟩
    · refine relOb_mk (o := ⟨some 26, _, _, _, _, _⟩) rfl (fun r V hc hf hg hs hb hd => ?_)
      have h2 : r (.tmp 25) = .int .i64 (n4 : Int) := hd 2 25 rfl (by kernel_rfl)
      clear hs hd hg
      go_simp
      refine (HF4.out V).mono ?_
      rintro e w' ⟨rfl, rfl⟩
      exact ⟨_, rfl, Below.refl _ _, rfl⟩
    · refine relOb_mk (o := ⟨some 27, _, _, _, _, _⟩) rfl (fun r V hc hf hg hs hb hd => ?_)
      have x1 : r (.tmp 1) = .pointer (some ⟨gl, 0, none⟩) := hs 1 (by kernel_rfl)
      clear hs hd hg
      go_simp
      exact ⟨Below.refl _ _, rfl⟩
    · refine relOb_mk (o := ⟨some 28, _, _, _, _, _⟩) rfl (fun r V hc hf hg hs hb hd => ?_)
      have h4 : r (.tmp 27) = .pointer (some ⟨gl, 1, none⟩) := hd 4 27 rfl (by kernel_rfl)
      clear hs hd hg
      have l := blk_cell (blk_keep hb HQL1.out) 1 _ rfl
      go_simp
      exact ⟨Below.refl _ _, rfl⟩
    · refine relOb_mk (o := ⟨some 29, _, _, _, _, _⟩) rfl (fun r V hc hf hg hs hb hd => ?_)
      have h5 : r (.tmp 28) = .slice L.po.a n2 L.po.c := hd 5 28 rfl (by kernel_rfl)
      clear hs hd hg
      go_simp
      exact ⟨Below.refl _ _, rfl⟩
    · refine relOb_mk (o := ⟨some 30, _, _, _, _, _⟩) rfl (fun r V hc hf hg hs hb hd => ?_)
      have h6 : r (.tmp 29) = .int .i64 (n2 : Int) := hd 6 29 rfl (by kernel_rfl)
      clear hs hd hg
      go_simp
      refine (HF2.out V).mono ?_
      rintro e w' ⟨rfl, rfl⟩
      exact ⟨_, rfl, Below.refl _ _, rfl⟩
    · refine relOb_mk (o := ⟨some 31, _, _, _, _, _⟩) rfl (fun r V hc hf hg hs hb hd => ?_)
      have h7 : r (.tmp 30) = .int .u64 (pt : Int) := hd 7 30 rfl (by kernel_rfl)
      clear hs hd hg
      have hw := HW2.out
      go_simp
      exact ⟨Below.refl _ _, rfl⟩
    · refine relOb_mk (o := ⟨some 32, _, _, _, _, _⟩) rfl (fun r V hc hf hg hs hb hd => ?_)
      have x1 : r (.tmp 1) = .pointer (some ⟨gl, 0, none⟩) := hs 1 (by kernel_rfl)
      clear hs hd hg
      go_simp
      exact ⟨Below.refl _ _, rfl⟩
    · refine relOb_mk (o := ⟨some 33, _, _, _, _, _⟩) rfl (fun r V hc hf hg hs hb hd => ?_)
      have h9 : r (.tmp 32) = .pointer (some ⟨gl, 0, none⟩) := hd 9 32 rfl (by kernel_rfl)
      clear hs hd hg
      have l := blk_cell (blk_keep hb HQL1.out) 0 _ rfl
      go_simp
      exact ⟨Below.refl _ _, rfl⟩
    · refine relOb_mk (o := ⟨some 34, _, _, _, _, _⟩) rfl (fun r V hc hf hg hs hb hd => ?_)
      have h10 : r (.tmp 33) = .slice L.se.a n1 L.se.c := hd 10 33 rfl (by kernel_rfl)
      clear hs hd hg
      go_simp
      exact ⟨Below.refl _ _, rfl⟩
    · refine relOb_mk (o := ⟨some 35, _, _, _, _, _⟩) rfl (fun r V hc hf hg hs hb hd => ?_)
      have h11 : r (.tmp 34) = .int .i64 (n1 : Int) := hd 11 34 rfl (by kernel_rfl)
      clear hs hd hg
      go_simp
      refine (HF1.out V).mono ?_
      rintro e w' ⟨rfl, rfl⟩
      exact ⟨_, rfl, Below.refl _ _, rfl⟩
    · refine relOb_mk (o := ⟨some 36, _, _, _, _, _⟩) rfl (fun r V hc hf hg hs hb hd => ?_)
      have h3 : r (.tmp 26) = .int .u64 (al : Int) := hd 3 26 rfl (by kernel_rfl)
      have h8 : r (.tmp 31) = .int .u32 (pt : Int) := hd 8 31 rfl (by kernel_rfl)
      have h12 : r (.tmp 35) = .int .u64 (tr : Int) := hd 12 35 rfl (by kernel_rfl)
      clear hs hd hg
      go_simp
      exact ⟨Below.refl _ _, rfl⟩
    · refine relOb_mk (o := ⟨some 6, _, _, _, _, _⟩) rfl (fun r V hc hf hg hs hb hd => ?_)
      clear hs hd hg
      go_simp
      exact ⟨below1 V _, ⟨_, rfl, alloc1 V _ (Below.refl _ _), hb.size⟩⟩
  · intro a V hb hx
    have h0 : a.eval (.tmp 23) = .pointer (some ⟨gl, 3, none⟩) := hx 0 23 rfl rfl
    have h1 : a.eval (.tmp 24) = .slice L.rt.a n4 L.rt.c := hx 1 24 rfl rfl
    have h2 : a.eval (.tmp 25) = .int .i64 (n4 : Int) := hx 2 25 rfl rfl
    have h3 : a.eval (.tmp 26) = .int .u64 (al : Int) := hx 3 26 rfl rfl
    have h4 : a.eval (.tmp 27) = .pointer (some ⟨gl, 1, none⟩) := hx 4 27 rfl rfl
    have h5 : a.eval (.tmp 28) = .slice L.po.a n2 L.po.c := hx 5 28 rfl rfl
    have h6 : a.eval (.tmp 29) = .int .i64 (n2 : Int) := hx 6 29 rfl rfl
    have h7 : a.eval (.tmp 30) = .int .u64 (pt : Int) := hx 7 30 rfl rfl
    have h8 : a.eval (.tmp 31) = .int .u32 (pt : Int) := hx 8 31 rfl rfl
    have h9 : a.eval (.tmp 32) = .pointer (some ⟨gl, 0, none⟩) := hx 9 32 rfl rfl
    have h10 : a.eval (.tmp 33) = .slice L.se.a n1 L.se.c := hx 10 33 rfl rfl
    have h11 : a.eval (.tmp 34) = .int .i64 (n1 : Int) := hx 11 34 rfl rfl
    have h12 : a.eval (.tmp 35) = .int .u64 (tr : Int) := hx 12 35 rfl rfl
    have h13 : a.eval (.tmp 36) = .agg #[.slice none 0 0, .slice none 0 0, .int .u64 (al : Int), .int .u32 (pt : Int), .int .u64 (tr : Int)] := hx 13 36 rfl rfl
    have h14 : (fun v V => ∃ g, v = .pointer (some ⟨g, 0, none⟩) ∧ V.heap[g]? = some (.cells #[.slice none 0 0, .slice none 0 0, .int .u64 0, .int .u32 0, .int .u64 0] 36) ∧ w1.heap.size ≤ g) (a.eval (.tmp 6)) V := hx 14 6 rfl rfl
    obtain ⟨v6, e6⟩ : ∃ v, a.eval (.tmp 6) = v := ⟨_, rfl⟩
    rw [e6] at h14
    unfold fillAll
    simp only [List.foldl_cons, List.foldl_nil, h0, h1, h2, h3, h4, h5, h6, h7, h8, h9, h10, h11, h12, h13, e6, Act.put, List.setIfInBounds_toArray, List.set_cons_zero, List.set_cons_succ]
    clear h0 h1 h2 h3 h4 h5 h6 h7 h8 h9 h10 h11 h12 h13 e6 hx
    obtain ⟨g6, rfl, hq6, hg6⟩ := h14
    have HB4 := Lib.hid hb
    have HG6 := Lib.hid hg6
    have HQ6 := Lib.hid hq6
    clear hb hg6 hq6
    refine wpAny_ready (rs := [15]) (by kernel_rfl) (by simp) (AllReady.cons (o := ⟨none, _, _, _, _, _⟩) rfl (fun K hK => ?_) AllReady.nil)
    have c0 := blk_cell HQ6.out 0 _ rfl
    have f0 := blk_free HQ6.out 0
    have c1 := blk_cell HQ6.out 1 _ rfl
    have f1 := blk_free HQ6.out 1
    have c2 := blk_cell HQ6.out 2 _ rfl
    have f2 := blk_free HQ6.out 2
    have c3 := blk_cell HQ6.out 3 _ rfl
    have f3 := blk_free HQ6.out 3
    have c4 := blk_cell HQ6.out 4 _ rfl
    have f4 := blk_free HQ6.out 4
    have hl := blk_lt HQ6.out
    go_simp
    clear c0 f0 c1 f1 c2 f2 c3 f3 c4 f4 hl
    refine name_K ?_
    intro V6 hV6
    have ho : Only g6 V V6 := by rw [hV6]; exact (((((Only.refl g6 V).setCell rfl _).setCell rfl _).setCell rfl _).setCell rfl _).setCell rfl _
    have HQ66 : Hid (V6.heap[g6]? = some (.cells #[.slice none 0 0, .slice none 0 0, .int .u64 (al : Int), .int .u32 (pt : Int), .int .u64 (tr : Int)] 36)) := Lib.hid (by rw [hV6]; exact blk_set (blk_set (blk_set (blk_set (blk_set HQ6.out 0 _) 1 _) 2 _) 3 _) 4 _)
    have HB6 : Hid (Below w1.heap.size w1 V6) := Lib.hid (Only.below HB4.out HG6.out HB4.out.size ho)
    clear hV6 ho HQ6 HB4
    refine hK _ _ ?_
    clear hK K
    refine wpAny_done (by kernel_rfl) ?_ _
    have l3 := blk_cell (blk_keep HB6.out HQL1.out) 3 _ rfl
    go_upto_region 6 with fail
    go_loopg [40] n4 (fun g v wr => ∃ (i : Nat) (vr : Value), i + g = n4 ∧ v = .int .i64 (i : Int) ∧ wr.heap[g6]? = some (.cells #[vr, .slice none 0 0, .int .u64 (al : Int), .int .u32 (pt : Int), .int .u64 (tr : Int)] 36) ∧ wr.ownsRow (g6 + 1) 49 6 vr ((mksS L).take i).length (((mksS L).take i).flatMap mkC) ∧ Below w1.heap.size w1 wr)
    case atStart => exact ⟨0, .slice none 0 0, by omega, rfl, HQ66.out, by rw [List.take_zero]; exact World.ownsRow_nil _ _ _ _, HB6.out⟩
    case round =>
      obtain ⟨i, vr, hi, rfl, hq, ho, hbw⟩ := hrel
      have HI := Lib.hid hi
      have HQM := Lib.hid hq
      have HO := Lib.hid ho
      have HB := Lib.hid hbw
      clear hi hq ho hbw HQ66 HB6
      by_cases hlt : i < n4
      · skip
        have d1 : (0 : Int) ≤ i := by omega
        have d2 : (i : Int) < n4 := by omega
        have e1 := k_succ hlt (Nat.le_trans HS4.out (by decide))
        have HLT := Lib.hid hlt
        rcases HLW.out.rt.row with hnil | ⟨xb, off, hxb, hc0⟩
        · have := HN4.out; rw [hnil] at this; simp at this; omega
        have hc := fun i c hi j v hv => cell_later (below_on HB1.out HB.out) (hc0 i c hi j v hv)
        obtain ⟨x, hyx⟩ : ∃ y, L.rt.l[i]? = some y := ⟨_, List.getElem?_eq_getElem (by rw [HN4.out]; exact hlt)⟩
        have z0 := hc i _ hyx 0 _ rfl
        have z1 := hc i _ hyx 1 _ rfl
        have z2 := hc i _ hyx 2 _ rfl
        have z3 := hc i _ hyx 3 _ rfl
        have z4 := hc i _ hyx 4 _ rfl
        have z5 := hc i _ hyx 5 _ rfl
        rw [Nat.add_zero] at z0
        obtain ⟨p1, hp1⟩ : ∃ n, x.pa.l.length = n := ⟨_, rfl⟩
        obtain ⟨p2, hp2⟩ : ∃ n, x.po.l.length = n := ⟨_, rfl⟩
        obtain ⟨p3, hp3⟩ : ∃ n, x.ov.l.length = n := ⟨_, rfl⟩
        obtain ⟨p4, hp4⟩ : ∃ n, x.fl.l.length = n := ⟨_, rfl⟩
        rw [slv hp1] at z2
        rw [slv hp2] at z3
        rw [slv hp3] at z4
        rw [slv hp4] at z5
        have HZX := Lib.hid (And.intro z0 (And.intro z1 (And.intro z2 (And.intro z3 (And.intro z4 z5)))))
        clear z0 z1 z2 z3 z4 z5
        obtain ⟨X, hX⟩ : ∃ x, L.rt.a = x := ⟨_, rfl⟩
        have HXX := Lib.hid hX
        rw [hX] at hxb ⊢
        subst hxb
        have hxm := List.mem_of_getElem? hyx
        have HYX := Lib.hid hyx
        have HXM := Lib.hid hxm
        have HPP := Lib.hid (And.intro hp1 (And.intro hp2 (And.intro hp3 hp4)))
        obtain ⟨z0, z1, z2, z3, z4, z5⟩ := HZX.out
        clear hc hc0 hyx hxm hp1 hp2 hp3 hp4 hlt hX
        go_upto_region 8 with fail
        have hbn := below1 wr (.cells #[.string x.nm, .int .i64 x.sg, .slice x.pa.a p1 x.pa.c, .slice x.po.a p2 x.po.c, .slice x.ov.a p3 x.ov.c, .slice x.fl.a p4 x.fl.c] 61)
        have hqn := alloc1 wr (.cells #[.string x.nm, .int .i64 x.sg, .slice x.pa.a p1 x.pa.c, .slice x.po.a p2 x.po.c, .slice x.ov.a p3 x.ov.c, .slice x.fl.a p4 x.fl.c] 61) (Below.refl _ _)
        obtain ⟨V8, hV8⟩ : ∃ V, V = wr.alloc (.cells #[.string x.nm, .int .i64 x.sg, .slice x.pa.a p1 x.pa.c, .slice x.po.a p2 x.po.c, .slice x.ov.a p3 x.ov.c, .slice x.fl.a p4 x.fl.c] 61) := ⟨_, rfl⟩
        rw [← hV8] at hbn hqn ⊢
        obtain ⟨g8, hg8⟩ : ∃ g, g = wr.heap.size := ⟨_, rfl⟩
        rw [← hg8] at hqn ⊢
        have HB8 := Lib.hid (below_on HB.out hbn)
        have HQ8 := Lib.hid hqn
        have HO8 := Lib.hid (own_below hbn HO.out)
        have HM8 := Lib.hid (blk_keep hbn HQM.out)
        have HG8 : Hid (wr.heap.size ≤ g8 ∧ g8 < V8.heap.size) := Lib.hid (by have := blk_lt hqn; omega)
        clear hbn hqn hV8 hg8 z0 z1 z2 z3 z4 z5
        obtain ⟨q0, qs, hpa⟩ : ∃ a l, x.pa.l = a :: l := by
          cases h : x.pa.l with
          | nil => exact absurd h (formed_pa (formed_of HC1.out x HXM.out))
          | cons a l => exact ⟨a, l, rfl⟩
        have ok := mayS_rt HM.out x HXM.out
        obtain ⟨sk, hsk⟩ : ∃ k : Nat, x.sg = k := ⟨x.sg.toNat, by have := ok.s0; omega⟩
        have hsl : sk < L.sg.l.length := by have := ok.s1; omega
        obtain ⟨sp, hsp⟩ : ∃ p, L.sg.l[sk]? = some p := ⟨_, List.getElem?_eq_getElem hsl⟩
        have hxw : RtAt V8 x := ((HLW.out.rn x HXM.out).below HB1.out).below HB8.out
        have hwb : Below w.heap.size w V8 := below_on HB1.out HB8.out
        have HF : Hid (firstS x = withI 0 q0 ∧ aheadS L x = withI 0 sp.2) := Lib.hid ⟨by unfold firstS; rw [hpa]; rfl, by unfold aheadS; rw [hsk, secOf_at hsp]⟩
        have HSK := Lib.hid hsk
        have HSL : Hid (sk < n3) := Lib.hid (by rw [← HN3.out]; exact hsl)
        obtain ⟨PA, hPA⟩ : ∃ a, x.pa.a = a := ⟨_, rfl⟩
        have hr1 := hxw.pa.row
        rw [hPA, hpa] at hr1
        rcases hr1 with hnil | ⟨pb, po, hpb, hpc⟩
        · cases hnil
        subst hpb
        have HP0 : Hid (V8.cell? ⟨pb, po, none⟩ = some (.int .i64 q0)) := Lib.hid (by have := hpc 0 q0 rfl 0 _ rfl; simpa using this)
        have HPL : Hid (0 < p1) := Lib.hid (by rw [← HPP.out.1, hpa]; simp)
        obtain ⟨SA, hSA⟩ : ∃ a, L.sg.a = a := ⟨_, rfl⟩
        have hr2 := HLW.out.sg.row
        rw [hSA] at hr2
        rcases hr2 with hnil | ⟨sb, so, hsb, hsc⟩
        · rw [hnil] at hsp; cases hsp
        subst hsb
        have HS1 : Hid (V8.cell? ⟨sb, so + sk * 2 + 1, none⟩ = some (.int .i64 sp.2)) := Lib.hid (cell_later hwb (hsc sk sp hsp 1 _ rfl))
        have HQG : Hid (V8.cell? ⟨gl, 2, none⟩ = some (.slice (some ⟨sb, so, none⟩) n3 L.sg.c)) := Lib.hid (by rw [← hSA]; exact blk_cell (blk_keep HB8.out HQL1.out) 2 _ rfl)
        have HQP : Hid (V8.cell? ⟨g8, 2, none⟩ = some (.slice (some ⟨pb, po, none⟩) p1 x.pa.c)) := Lib.hid (by rw [← hPA]; exact blk_cell HQ8.out 2 _ rfl)
        have HQS : Hid (V8.cell? ⟨g8, 1, none⟩ = some (.int .i64 (sk : Int))) := Lib.hid (by rw [← hsk]; exact blk_cell HQ8.out 1 _ rfl)
        have hrt := hT_row (n4 := n4) HT.out HTT.out.1
        obtain ⟨tb, tf, htb, htc⟩ := hrt i HLT.out
        have htb := htb HN4.out
        obtain ⟨TA, hTA⟩ : ∃ a, ta = a := ⟨_, rfl⟩
        have HTA := Lib.hid hTA
        rw [hTA] at htb ⊢
        subst htb
        have HTC : Hid (V8.cell? ⟨tb, tf + i, none⟩ = some (.int .u64 (rowS L i : Int))) := Lib.hid (cell_later HB8.out (htc (by rw [HN4.out])))
        have HTRK : Hid (∀ W, Below V8.heap.size V8 W → Calls Try.prog 23 #[.agg #[.string x.nm, .int .i64 x.sg, .slice x.pa.a p1 x.pa.c, .slice x.po.a p2 x.po.c, .slice x.ov.a p3 x.ov.c, .slice x.fl.a p4 x.fl.c]] W fun e w' => ∃ a n c, e = .returned (.slice a n c) ∧ n = x.tr.length ∧ SlAt 1 intC w' ⟨a, c, x.tr⟩ ∧ Below W.heap.size W w') := Lib.hid (fun W hW => by
          have h := track_is x W (hxw.below hW) (by have := ok.pa; have := ok.ov; omega)
          rw [slv HPP.out.1, slv HPP.out.2.1, slv HPP.out.2.2.1, slv HPP.out.2.2.2] at h
          refine h.mono (fun _ _ ⟨a, n, c, h1, h2, h3, h4⟩ => ⟨a, n, c, h1, ?_, by unfold Rt.tr; exact h3, h4⟩)
          rw [h2]; unfold Rt.tr; rw [List.length_append])
        have HNDS : Hid (∀ W, Below V8.heap.size V8 W → Calls Try.prog 25 #[.agg #[.string x.nm, .int .i64 x.sg, .slice x.pa.a p1 x.pa.c, .slice x.po.a p2 x.po.c, .slice x.ov.a p3 x.ov.c, .slice x.fl.a p4 x.fl.c]] W fun e w' => ∃ a n c, e = .returned (.slice a n c) ∧ n = x.nd.length ∧ SlAt 2 ndC w' ⟨a, c, x.nd⟩ ∧ Below W.heap.size W w' ∧ NewRow 2 W.heap.size w' a n) := Lib.hid (fun W hW => by
          have h := needs_own x W (hxw.below hW) (by have := ok.po; have := ok.fl; omega)
          rw [slv HPP.out.1, slv HPP.out.2.1, slv HPP.out.2.2.1, slv HPP.out.2.2.2] at h
          refine h.mono (fun _ _ ⟨a, n, c, h1, h2, h3, h4, h5⟩ => ⟨a, n, c, h1, ?_, by unfold Rt.nd; exact h3, h4, h5⟩)
          rw [h2]; unfold Rt.nd; rw [List.length_append])
        have HNB := Lib.hid (k_nd HM.out x HXM.out)
        have HNL : Hid (x.nd.length ≤ 100000) := Lib.hid (by have := ok.po; have := ok.fl; unfold Rt.nd; rw [List.length_append]; omega)
        have HWQ : Hid (∀ V, Calls Try.prog 24 #[.int .u64 0, .int .i64 q0] V fun e w' => e = .returned (.int .u64 ((withI 0 q0 : Nat) : Int)) ∧ V = w') := Lib.hid (fun V => bwithI_any 0 q0 V (by decide))
        have HWS : Hid (∀ V, Calls Try.prog 24 #[.int .u64 0, .int .i64 sp.2] V fun e w' => e = .returned (.int .u64 ((withI 0 sp.2 : Nat) : Int)) ∧ V = w') := Lib.hid (fun V => bwithI_any 0 sp.2 V (by decide))
        have d3 : (i : Int) < tm := by rw [HTT.out.2]; exact d2
        clear hpa ok hsk hsl hsp hxw hwb hPA hpc hSA hsc hrt htc hTA
        refine wp_region_rel (by kernel_rfl) [22] 14 [0, 1, 2, 3, 4, 5, 6, 7, 8, 9, 10, 11, 12, 13, 14, 15, 16, 17, 18, 19, 20, 21] [45, 46, 47, 48, 49, 50, 51, 52, 53, 54, 55, 56, 57, 58, 59, 60, 61, 62, 63, 64, 65, 9] #[true, true, true, true, true, true, true, true, true, true, true, true, true, true, true, true, true, true, true, true, true, true, false] 1 [(fun v _ => v = .agg #[.string x.nm, .int .i64 x.sg, .slice x.pa.a p1 x.pa.c, .slice x.po.a p2 x.po.c, .slice x.ov.a p3 x.ov.c, .slice x.fl.a p4 x.fl.c]), (fun v V => ∃ a n c, v = .slice a n c ∧ n = x.tr.length ∧ SlAt 1 intC V ⟨a, c, x.tr⟩), (fun v _ => v = .int .u64 (ofN x.tr : Int)), (fun v _ => v = .pointer (some ⟨g8, 2, none⟩)), (fun v _ => v = .slice (some ⟨pb, po, none⟩) p1 x.pa.c), (fun v _ => v = .pointer (some ⟨pb, po, none⟩)), (fun v _ => v = .int .i64 q0), (fun v _ => v = .int .u64 ((withI 0 q0 : Nat) : Int)), (fun v _ => v = .pointer (some ⟨gl, 2, none⟩)), (fun v _ => v = .slice (some ⟨sb, so, none⟩) n3 L.sg.c), (fun v _ => v = .pointer (some ⟨g8, 1, none⟩)), (fun v _ => v = .int .i64 (sk : Int)), (fun v _ => v = .pointer (some ⟨sb, so + sk * 2, none⟩)), (fun v _ => v = .pointer (some ⟨sb, so + sk * 2 + 1, none⟩)), (fun v _ => v = .int .i64 sp.2), (fun v _ => v = .int .u64 ((withI 0 sp.2 : Nat) : Int)), (fun v _ => v = .slice (some ⟨tb, tf, none⟩) tm tc), (fun v _ => v = .int .i64 (i : Int)), (fun v _ => v = .pointer (some ⟨tb, tf + i, none⟩)), (fun v _ => v = .int .u64 (rowS L i : Int)), (fun v _ => v = .agg #[.int .u64 (ofN x.tr : Int), .int .u64 ((withI 0 q0 : Nat) : Int), .int .u64 ((withI 0 sp.2 : Nat) : Int), .int .u32 0, .int .u32 0, .int .u64 (rowS L i : Int)]), (fun v V => ∃ g, v = .pointer (some ⟨g, 0, none⟩) ∧ V.heap[g]? = some (.cells #[.int .u64 0, .int .u64 0, .int .u64 0, .int .u32 0, .int .u32 0, .int .u64 0] 49) ∧ V8.heap.size ≤ g), (fun _ _ => True)] (by kernel_rfl) (by kernel_rfl) (by kernel_rfl) (by kernel_rfl) (by kernel_rfl) rfl (by kernel_rfl) rfl ?_ ?_ ?_
        · exact ⟨stays_is _, (fun v W W2 h hb => by obtain ⟨a, n, c, h1, h2, h3⟩ := h; exact ⟨a, n, c, h1, h2, h3.below hb⟩), stays_is _, stays_is _, stays_is _, stays_is _, stays_is _, stays_is _, stays_is _, stays_is _, stays_is _, stays_is _, stays_is _, stays_is _, stays_is _, stays_is _, stays_is _, stays_is _, stays_is _, stays_is _, stays_is _, (fun v W W2 h hb => by obtain ⟨g, h1, h2, h3⟩ := h; exact ⟨g, h1, blk_keep hb h2, h3⟩), stays_true, trivial⟩
        · refine ⟨?_, ?_, ?_, ?_, ?_, ?_, ?_, ?_, ?_, ?_, ?_, ?_, ?_, ?_, ?_, ?_, ?_, ?_, ?_, ?_, ?_, ?_, trivial⟩
          · refine relOb_mk (o := ⟨some 45, _, _, _, _, _⟩) rfl (fun r V hc hf hg hs hb hd => ?_)
            have x8 : r (.tmp 8) = .pointer (some ⟨g8, 0, none⟩) := hs 8 (by kernel_rfl)
            clear hs hd hg
            have l0 := blk_cell (blk_keep hb HQ8.out) 0 _ rfl
            have l1 := blk_cell (blk_keep hb HQ8.out) 1 _ rfl
            have l2 := blk_cell (blk_keep hb HQ8.out) 2 _ rfl
            have l3 := blk_cell (blk_keep hb HQ8.out) 3 _ rfl
            have l4 := blk_cell (blk_keep hb HQ8.out) 4 _ rfl
            have l5 := blk_cell (blk_keep hb HQ8.out) 5 _ rfl
            go_simp
            exact ⟨Below.refl _ _, rfl⟩
          · refine relOb_mk (o := ⟨some 46, _, _, _, _, _⟩) rfl (fun r V hc hf hg hs hb hd => ?_)
            have h0 : r (.tmp 45) = .agg #[.string x.nm, .int .i64 x.sg, .slice x.pa.a p1 x.pa.c, .slice x.po.a p2 x.po.c, .slice x.ov.a p3 x.ov.c, .slice x.fl.a p4 x.fl.c] := hd 0 45 rfl (by kernel_rfl)
            clear hs hd hg
            go_simp
            refine (HTRK.out V hb).mono ?_
            rintro e w' ⟨a, n, c, rfl, h1, h2, h3⟩
            exact ⟨_, rfl, h3, a, n, c, rfl, h1, h2⟩
          · refine relOb_mk (o := ⟨some 47, _, _, _, _, _⟩) rfl (fun r V hc hf hg hs hb hd => ?_)
            have h1 : (fun v V => ∃ a n c, v = .slice a n c ∧ n = x.tr.length ∧ SlAt 1 intC V ⟨a, c, x.tr⟩) (r (.tmp 46)) V := hd 1 46 rfl (by kernel_rfl)
            obtain ⟨ra, rn, rc, hv, hn, hsl⟩ := h1
            have HRN := Lib.hid hn
            have HRS := Lib.hid hsl
            clear hn hsl
            clear hs hd hg
            go_simp
            refine (of_any ra rn rc x.tr V HRN.out.symm (by rw [HRN.out]; exact Nat.le_trans HRS.out.len HRS.out.cap) HRS.out.row).mono ?_
            rintro e w' ⟨rfl, rfl⟩
            exact ⟨_, rfl, Below.refl _ _, rfl⟩
          · refine relOb_mk (o := ⟨some 48, _, _, _, _, _⟩) rfl (fun r V hc hf hg hs hb hd => ?_)
            have x8 : r (.tmp 8) = .pointer (some ⟨g8, 0, none⟩) := hs 8 (by kernel_rfl)
            clear hs hd hg
            go_simp
            exact ⟨Below.refl _ _, rfl⟩
          · refine relOb_mk (o := ⟨some 49, _, _, _, _, _⟩) rfl (fun r V hc hf hg hs hb hd => ?_)
            have h3 : r (.tmp 48) = .pointer (some ⟨g8, 2, none⟩) := hd 3 48 rfl (by kernel_rfl)
            clear hs hd hg
            have l := cell_later hb HQP.out
            go_simp
            exact ⟨Below.refl _ _, rfl⟩
          · refine relOb_mk (o := ⟨some 50, _, _, _, _, _⟩) rfl (fun r V hc hf hg hs hb hd => ?_)
            have h4 : r (.tmp 49) = .slice (some ⟨pb, po, none⟩) p1 x.pa.c := hd 4 49 rfl (by kernel_rfl)
            clear hs hd hg
            have hl := HPL.out
            go_simp
            exact ⟨Below.refl _ _, rfl⟩
          · refine relOb_mk (o := ⟨some 51, _, _, _, _, _⟩) rfl (fun r V hc hf hg hs hb hd => ?_)
            have h5 : r (.tmp 50) = .pointer (some ⟨pb, po, none⟩) := hd 5 50 rfl (by kernel_rfl)
            clear hs hd hg
            have l := cell_later hb HP0.out
            go_simp
            exact ⟨Below.refl _ _, rfl⟩
          · refine relOb_mk (o := ⟨some 52, _, _, _, _, _⟩) rfl (fun r V hc hf hg hs hb hd => ?_)
            have h6 : r (.tmp 51) = .int .i64 q0 := hd 6 51 rfl (by kernel_rfl)
            clear hs hd hg
            go_simp
            refine (HWQ.out V).mono ?_
            rintro e w' ⟨rfl, rfl⟩
            exact ⟨_, rfl, Below.refl _ _, rfl⟩
          · refine relOb_mk (o := ⟨some 53, _, _, _, _, _⟩) rfl (fun r V hc hf hg hs hb hd => ?_)
            have x1 : r (.tmp 1) = .pointer (some ⟨gl, 0, none⟩) := hs 1 (by kernel_rfl)
            clear hs hd hg
            go_simp
            exact ⟨Below.refl _ _, rfl⟩
          · refine relOb_mk (o := ⟨some 54, _, _, _, _, _⟩) rfl (fun r V hc hf hg hs hb hd => ?_)
            have h8 : r (.tmp 53) = .pointer (some ⟨gl, 2, none⟩) := hd 8 53 rfl (by kernel_rfl)
            clear hs hd hg
            have l := cell_later hb HQG.out
            go_simp
            exact ⟨Below.refl _ _, rfl⟩
          · refine relOb_mk (o := ⟨some 55, _, _, _, _, _⟩) rfl (fun r V hc hf hg hs hb hd => ?_)
            have x8 : r (.tmp 8) = .pointer (some ⟨g8, 0, none⟩) := hs 8 (by kernel_rfl)
            clear hs hd hg
            go_simp
            exact ⟨Below.refl _ _, rfl⟩
          · refine relOb_mk (o := ⟨some 56, _, _, _, _, _⟩) rfl (fun r V hc hf hg hs hb hd => ?_)
            have h10 : r (.tmp 55) = .pointer (some ⟨g8, 1, none⟩) := hd 10 55 rfl (by kernel_rfl)
            clear hs hd hg
            have l := cell_later hb HQS.out
            go_simp
            exact ⟨Below.refl _ _, rfl⟩
          · refine relOb_mk (o := ⟨some 57, _, _, _, _, _⟩) rfl (fun r V hc hf hg hs hb hd => ?_)
            have h9 : r (.tmp 54) = .slice (some ⟨sb, so, none⟩) n3 L.sg.c := hd 9 54 rfl (by kernel_rfl)
            have h11 : r (.tmp 56) = .int .i64 (sk : Int) := hd 11 56 rfl (by kernel_rfl)
            clear hs hd hg
            have hl : (sk : Int) < n3 := by have := HSL.out; omega
            have hl0 : (0 : Int) ≤ sk := by omega
            go_simp
            exact ⟨Below.refl _ _, rfl⟩
          · refine relOb_mk (o := ⟨some 58, _, _, _, _, _⟩) rfl (fun r V hc hf hg hs hb hd => ?_)
            have h12 : r (.tmp 57) = .pointer (some ⟨sb, so + sk * 2, none⟩) := hd 12 57 rfl (by kernel_rfl)
            clear hs hd hg
            go_simp
            exact ⟨Below.refl _ _, rfl⟩
          · refine relOb_mk (o := ⟨some 59, _, _, _, _, _⟩) rfl (fun r V hc hf hg hs hb hd => ?_)
            have h13 : r (.tmp 58) = .pointer (some ⟨sb, so + sk * 2 + 1, none⟩) := hd 13 58 rfl (by kernel_rfl)
            clear hs hd hg
            have l := cell_later hb HS1.out
            go_simp
            exact ⟨Below.refl _ _, rfl⟩
          · refine relOb_mk (o := ⟨some 60, _, _, _, _, _⟩) rfl (fun r V hc hf hg hs hb hd => ?_)
            have h14 : r (.tmp 59) = .int .i64 sp.2 := hd 14 59 rfl (by kernel_rfl)
            clear hs hd hg
            go_simp
            refine (HWS.out V).mono ?_
            rintro e w' ⟨rfl, rfl⟩
            exact ⟨_, rfl, Below.refl _ _, rfl⟩
          · refine relOb_mk (o := ⟨some 61, _, _, _, _, _⟩) rfl (fun r V hc hf hg hs hb hd => ?_)
            have x4 : r (.tmp 4) = .slice (some ⟨tb, tf, none⟩) tm tc := hs 4 (by kernel_rfl)
            clear hs hd hg
            go_simp
            exact ⟨Below.refl _ _, rfl⟩
          · refine relOb_mk (o := ⟨some 62, _, _, _, _, _⟩) rfl (fun r V hc hf hg hs hb hd => ?_)
            have x7 : r (.tmp 7) = .int .i64 (i : Int) := hs 7 (by kernel_rfl)
            clear hs hd hg
            go_simp
            exact ⟨Below.refl _ _, rfl⟩
          · refine relOb_mk (o := ⟨some 63, _, _, _, _, _⟩) rfl (fun r V hc hf hg hs hb hd => ?_)
            have h16 : r (.tmp 61) = .slice (some ⟨tb, tf, none⟩) tm tc := hd 16 61 rfl (by kernel_rfl)
            have h17 : r (.tmp 62) = .int .i64 (i : Int) := hd 17 62 rfl (by kernel_rfl)
            clear hs hd hg
            go_simp
            exact ⟨Below.refl _ _, rfl⟩
          · refine relOb_mk (o := ⟨some 64, _, _, _, _, _⟩) rfl (fun r V hc hf hg hs hb hd => ?_)
            have h18 : r (.tmp 63) = .pointer (some ⟨tb, tf + i, none⟩) := hd 18 63 rfl (by kernel_rfl)
            clear hs hd hg
            have l := cell_later hb HTC.out
            go_simp
            exact ⟨Below.refl _ _, rfl⟩
          · refine relOb_mk (o := ⟨some 65, _, _, _, _, _⟩) rfl (fun r V hc hf hg hs hb hd => ?_)
            have h2 : r (.tmp 47) = .int .u64 (ofN x.tr : Int) := hd 2 47 rfl (by kernel_rfl)
            have h7 : r (.tmp 52) = .int .u64 ((withI 0 q0 : Nat) : Int) := hd 7 52 rfl (by kernel_rfl)
            have h15 : r (.tmp 60) = .int .u64 ((withI 0 sp.2 : Nat) : Int) := hd 15 60 rfl (by kernel_rfl)
            have h19 : r (.tmp 64) = .int .u64 (rowS L i : Int) := hd 19 64 rfl (by kernel_rfl)
            clear hs hd hg
            go_simp
            exact ⟨Below.refl _ _, rfl⟩
          · refine relOb_mk (o := ⟨some 9, _, _, _, _, _⟩) rfl (fun r V hc hf hg hs hb hd => ?_)
            clear hs hd hg
            go_simp
            exact ⟨below1 V _, ⟨_, rfl, alloc1 V _ (Below.refl _ _), hb.size⟩⟩
        · intro a V hb hx
          have h0 : a.eval (.tmp 45) = .agg #[.string x.nm, .int .i64 x.sg, .slice x.pa.a p1 x.pa.c, .slice x.po.a p2 x.po.c, .slice x.ov.a p3 x.ov.c, .slice x.fl.a p4 x.fl.c] := hx 0 45 rfl rfl
          have h1 : (fun v V => ∃ a n c, v = .slice a n c ∧ n = x.tr.length ∧ SlAt 1 intC V ⟨a, c, x.tr⟩) (a.eval (.tmp 46)) V := hx 1 46 rfl rfl
          obtain ⟨v46, e46⟩ : ∃ v, a.eval (.tmp 46) = v := ⟨_, rfl⟩
          rw [e46] at h1
          have h2 : a.eval (.tmp 47) = .int .u64 (ofN x.tr : Int) := hx 2 47 rfl rfl
          have h3 : a.eval (.tmp 48) = .pointer (some ⟨g8, 2, none⟩) := hx 3 48 rfl rfl
          have h4 : a.eval (.tmp 49) = .slice (some ⟨pb, po, none⟩) p1 x.pa.c := hx 4 49 rfl rfl
          have h5 : a.eval (.tmp 50) = .pointer (some ⟨pb, po, none⟩) := hx 5 50 rfl rfl
          have h6 : a.eval (.tmp 51) = .int .i64 q0 := hx 6 51 rfl rfl
          have h7 : a.eval (.tmp 52) = .int .u64 ((withI 0 q0 : Nat) : Int) := hx 7 52 rfl rfl
          have h8 : a.eval (.tmp 53) = .pointer (some ⟨gl, 2, none⟩) := hx 8 53 rfl rfl
          have h9 : a.eval (.tmp 54) = .slice (some ⟨sb, so, none⟩) n3 L.sg.c := hx 9 54 rfl rfl
          have h10 : a.eval (.tmp 55) = .pointer (some ⟨g8, 1, none⟩) := hx 10 55 rfl rfl
          have h11 : a.eval (.tmp 56) = .int .i64 (sk : Int) := hx 11 56 rfl rfl
          have h12 : a.eval (.tmp 57) = .pointer (some ⟨sb, so + sk * 2, none⟩) := hx 12 57 rfl rfl
          have h13 : a.eval (.tmp 58) = .pointer (some ⟨sb, so + sk * 2 + 1, none⟩) := hx 13 58 rfl rfl
          have h14 : a.eval (.tmp 59) = .int .i64 sp.2 := hx 14 59 rfl rfl
          have h15 : a.eval (.tmp 60) = .int .u64 ((withI 0 sp.2 : Nat) : Int) := hx 15 60 rfl rfl
          have h16 : a.eval (.tmp 61) = .slice (some ⟨tb, tf, none⟩) tm tc := hx 16 61 rfl rfl
          have h17 : a.eval (.tmp 62) = .int .i64 (i : Int) := hx 17 62 rfl rfl
          have h18 : a.eval (.tmp 63) = .pointer (some ⟨tb, tf + i, none⟩) := hx 18 63 rfl rfl
          have h19 : a.eval (.tmp 64) = .int .u64 (rowS L i : Int) := hx 19 64 rfl rfl
          have h20 : a.eval (.tmp 65) = .agg #[.int .u64 (ofN x.tr : Int), .int .u64 ((withI 0 q0 : Nat) : Int), .int .u64 ((withI 0 sp.2 : Nat) : Int), .int .u32 0, .int .u32 0, .int .u64 (rowS L i : Int)] := hx 20 65 rfl rfl
          have h21 : (fun v V => ∃ g, v = .pointer (some ⟨g, 0, none⟩) ∧ V.heap[g]? = some (.cells #[.int .u64 0, .int .u64 0, .int .u64 0, .int .u32 0, .int .u32 0, .int .u64 0] 49) ∧ V8.heap.size ≤ g) (a.eval (.tmp 9)) V := hx 21 9 rfl rfl
          obtain ⟨v9, e9⟩ : ∃ v, a.eval (.tmp 9) = v := ⟨_, rfl⟩
          rw [e9] at h21
          unfold fillAll
          simp only [List.foldl_cons, List.foldl_nil, h0, e46, h2, h3, h4, h5, h6, h7, h8, h9, h10, h11, h12, h13, h14, h15, h16, h17, h18, h19, h20, e9, Act.put, List.setIfInBounds_toArray, List.set_cons_zero, List.set_cons_succ]
          clear h0 e46 h2 h3 h4 h5 h6 h7 h8 h9 h10 h11 h12 h13 h14 h15 h16 h17 h18 h19 h20 e9 hx
          obtain ⟨g9, rfl, hq9, hg9⟩ := h21
          have HB80 := Lib.hid hb
          have HG9 := Lib.hid hg9
          have HQ9 := Lib.hid hq9
          clear hb hg9 hq9 h1
          refine wpAny_ready (rs := [22]) (by kernel_rfl) (by simp) (AllReady.cons (o := ⟨none, _, _, _, _, _⟩) rfl (fun K hK => ?_) AllReady.nil)
          have c0 := blk_cell HQ9.out 0 _ rfl
          have f0 := blk_free HQ9.out 0
          have c1 := blk_cell HQ9.out 1 _ rfl
          have f1 := blk_free HQ9.out 1
          have c2 := blk_cell HQ9.out 2 _ rfl
          have f2 := blk_free HQ9.out 2
          have c3 := blk_cell HQ9.out 3 _ rfl
          have f3 := blk_free HQ9.out 3
          have c4 := blk_cell HQ9.out 4 _ rfl
          have f4 := blk_free HQ9.out 4
          have c5 := blk_cell HQ9.out 5 _ rfl
          have f5 := blk_free HQ9.out 5
          have hl := blk_lt HQ9.out
          go_simp
          clear c0 f0 c1 f1 c2 f2 c3 f3 c4 f4 c5 f5 hl
          refine name_K ?_
          intro V9 hV9
          have ho : Only g9 V V9 := by rw [hV9]; exact ((((((Only.refl g9 V).setCell rfl _).setCell rfl _).setCell rfl _).setCell rfl _).setCell rfl _).setCell rfl _
          have HQ99 : Hid (V9.heap[g9]? = some (.cells #[.int .u64 (ofN x.tr : Int), .int .u64 ((withI 0 q0 : Nat) : Int), .int .u64 ((withI 0 sp.2 : Nat) : Int), .int .u32 0, .int .u32 0, .int .u64 (rowS L i : Int)] 49)) := Lib.hid (by rw [hV9]; exact blk_set (blk_set (blk_set (blk_set (blk_set (blk_set HQ9.out 0 _) 1 _) 2 _) 3 _) 4 _) 5 _)
          have HB9 : Hid (Below V8.heap.size V8 V9) := Lib.hid (Only.below HB80.out HG9.out HB80.out.size ho)
          clear hV9 ho HQ9 HB80
          refine hK _ _ ?_
          clear hK K
          refine wpAny_done (by kernel_rfl) ?_ _
          have HQ89 := Lib.hid (blk_keep HB9.out HQ8.out)
          have HM9 := Lib.hid (blk_keep HB9.out HM8.out)
          have HO9 := Lib.hid (own_below HB9.out HO8.out)
          have l0 := blk_cell HQ89.out 0 _ rfl
          have l1 := blk_cell HQ89.out 1 _ rfl
          have l2 := blk_cell HQ89.out 2 _ rfl
          have l3 := blk_cell HQ89.out 3 _ rfl
          have l4 := blk_cell HQ89.out 4 _ rfl
          have l5 := blk_cell HQ89.out 5 _ rfl
          go_wp2_with fail
          refine (HNDS.out _ HB9.out).mono ?_
          rintro e wN ⟨na, nn, nc, rfl, hnn, hns, hb, hnew⟩
          have HBN := Lib.hid (below_on HB9.out hb)
          have HQ9N := Lib.hid (blk_keep hb HQ99.out)
          have HMN := Lib.hid (blk_keep hb HM9.out)
          have HON := Lib.hid (own_below hb HO9.out)
          have HNN := Lib.hid hnn
          have HSX : Hid (SlX 2 ndC (fun y => y = g9) wN ⟨na, nc, x.nd⟩) := Lib.hid ⟨hns, by
            rcases hnew with h0 | ⟨g, cs, t, h1, h2, h3, _⟩
            · exact .inl (List.length_eq_zero_iff.1 (hnn ▸ h0))
            · refine .inr ⟨g, 0, h1, blk_lt h3, fun e => ?_⟩
              have := blk_lt HQ99.out
              omega⟩
          have HGN : Hid (g6 ≠ g9 ∧ ∀ k, vr.ownBlock = some k → ¬ k = g9) := Lib.hid ⟨by have := blk_lt HM8.out; have := HG9.out; omega, fun k hk => by have := (HO8.out.lt _ hk).2; have := HG9.out; omega⟩
          clear l0 l1 l2 l3 l4 l5 hb hnn hns hnew HQ99 HQ89 HM9 HO9
          go_upto_region 10 with fail
          go_loopg [69] nn (fun g v wq => ∃ k : Nat, k + g = nn ∧ v = .int .i64 (k : Int) ∧ wq.heap[g9]? = some (.cells #[.int .u64 (ofN x.tr : Int), .int .u64 ((withI 0 q0 : Nat) : Int), .int .u64 ((withI 0 sp.2 : Nat) : Int), .int .u32 (sideS (x.nd.take k) false : Int), .int .u32 (sideS (x.nd.take k) true : Int), .int .u64 (rowS L i : Int)] 49) ∧ WX (fun y => y = g9) wN wq)
          case atStart => exact ⟨0, by omega, rfl, by rw [side_zero, side_zero]; exact HQ9N.out, WX.refl _ _⟩
          case round =>
            obtain ⟨k, hk, rfl, hq, hwx⟩ := hrel
            obtain ⟨wq, rfl⟩ : ∃ wq, wq = wr := ⟨_, rfl⟩
            have HK := Lib.hid hk
            have HQ9K := Lib.hid hq
            have HWX := Lib.hid hwx
            by_cases hlk : k < nn
            · have d4 : (0 : Int) ≤ k := by omega
              have d5 : (k : Int) < nn := by omega
              have HLK := Lib.hid hlk
              have e2 := k_succ hlk (by have := HNL.out; have := HNN.out; omega)
              obtain ⟨pp, hpp⟩ : ∃ p, x.nd[k]? = some p := ⟨_, List.getElem?_eq_getElem (by rw [← HNN.out]; exact hlk)⟩
              obtain ⟨pj, s⟩ := pp
              have hpb := HNB.out _ (List.mem_of_getElem? hpp)
              obtain ⟨p, rfl⟩ : ∃ p : Nat, pj = p := ⟨pj.toNat, by have := hpb.1; dsimp only at this; omega⟩
              have HP31 : Hid (p ≤ 31) := Lib.hid (by have := hpb.2; dsimp only at this; omega)
              have HPK := Lib.hid hpp
              obtain ⟨NA, hNA⟩ : ∃ a, na = a := ⟨_, rfl⟩
              have HNA := Lib.hid hNA
              have hrow := (HSX.out.step hwx).at_.row
              dsimp only at hrow
              rw [hNA] at hrow ⊢
              rcases hrow with hnil | ⟨nb, nf, hnb, hnc⟩
              · rw [hnil] at hpp; cases hpp
              subst hnb
              have y0 := hnc k _ hpp 0 _ rfl
              have y1 := hnc k _ hpp 1 _ rfl
              rw [Nat.add_zero] at y0
              clear hk hq hwx hlk hpp hpb hnc hNA
              go_upto_region 12 with fail
              have hbn := below1 wq (.cells #[.int .i64 (p : Int), .bool s] 63)
              have hqn := alloc1 wq (.cells #[.int .i64 (p : Int), .bool s] 63) (Below.refl _ _)
              obtain ⟨V11, hV11⟩ : ∃ V, V = wq.alloc (.cells #[.int .i64 (p : Int), .bool s] 63) := ⟨_, rfl⟩
              rw [← hV11] at hbn hqn ⊢
              obtain ⟨g11, hg11⟩ : ∃ g, g = wq.heap.size := ⟨_, rfl⟩
              rw [← hg11] at hqn ⊢
              clear y0 y1
              have HWX1 := Lib.hid (HWX.out.trans (WX.of_below hbn))
              have HQ91 := Lib.hid (blk_keep hbn HQ9K.out)
              have HQ11 := Lib.hid hqn
              have n1 := blk_cell hqn 1 _ rfl
              clear hbn hqn hV11 hg11
              obtain ⟨A, hA⟩ : ∃ A, sideS (x.nd.take k) false = A := ⟨_, rfl⟩
              obtain ⟨B, hB⟩ : ∃ B, sideS (x.nd.take k) true = B := ⟨_, rfl⟩
              have HA : Hid (A < 4294967296) := Lib.hid (by rw [← hA]; exact side_lt (take_bound HNB.out k))
              have HBB : Hid (B < 4294967296) := Lib.hid (by rw [← hB]; exact side_lt (take_bound HNB.out k))
              rw [hA, hB] at HQ91
              cases s with
              | true =>
                have HE : Hid (sideS (x.nd.take (k + 1)) false = A ∧ sideS (x.nd.take (k + 1)) true = withBit B p) := Lib.hid ⟨by rw [side_no HPK.out (by decide)]; exact hA, by rw [side_yes HPK.out, hB]; exact withI_nat HP31.out⟩
                clear hA hB HQ9K
                go_upto_region 13 with fail
                clear n1
                refine wp_region_rel (by kernel_rfl) [7] 10 [0, 1, 2, 3, 4, 5, 6] [75, 76, 77, 78, 79, 80, 81] #[true, true, true, true, true, true, true, false] 1 [(fun v _ => v = .pointer (some ⟨g9, 4, none⟩)), (fun v _ => v = .int .u32 (B : Int)), (fun v _ => v = .pointer (some ⟨g11, 0, none⟩)), (fun v _ => v = .int .i64 (p : Int)), (fun v _ => v = .int .u32 ((pw p : Nat) : Int)), (fun v _ => v = .int .u32 ((withBit B p : Nat) : Int)), (fun v _ => v = .pointer (some ⟨g9, 4, none⟩)), (fun _ _ => True)] (by kernel_rfl) (by kernel_rfl) (by kernel_rfl) (by kernel_rfl) (by kernel_rfl) rfl (by kernel_rfl) rfl ?_ ?_ ?_
                · exact ⟨stays_is _, stays_is _, stays_is _, stays_is _, stays_is _, stays_is _, stays_is _, stays_true, trivial⟩
                · refine ⟨?_, ?_, ?_, ?_, ?_, ?_, ?_, trivial⟩
                  · refine relOb_mk (o := ⟨some 75, _, _, _, _, _⟩) rfl (fun r V hc hf hg hs hb hd => ?_)
                    have x9 : r (.tmp 9) = .pointer (some ⟨g9, 0, none⟩) := hs 9 (by kernel_rfl)
                    clear hs hd hg
                    go_simp
                    exact ⟨Below.refl _ _, rfl⟩
                  · refine relOb_mk (o := ⟨some 76, _, _, _, _, _⟩) rfl (fun r V hc hf hg hs hb hd => ?_)
                    have h0 : r (.tmp 75) = .pointer (some ⟨g9, 4, none⟩) := hd 0 75 rfl (by kernel_rfl)
                    clear hs hd hg
                    have l := blk_cell (blk_keep hb HQ91.out) 4 _ rfl
                    go_simp
                    exact ⟨Below.refl _ _, rfl⟩
                  · refine relOb_mk (o := ⟨some 77, _, _, _, _, _⟩) rfl (fun r V hc hf hg hs hb hd => ?_)
                    have x11 : r (.tmp 11) = .pointer (some ⟨g11, 0, none⟩) := hs 11 (by kernel_rfl)
                    clear hs hd hg
                    go_simp
                    exact ⟨Below.refl _ _, rfl⟩
                  · refine relOb_mk (o := ⟨some 78, _, _, _, _, _⟩) rfl (fun r V hc hf hg hs hb hd => ?_)
                    have h2 : r (.tmp 77) = .pointer (some ⟨g11, 0, none⟩) := hd 2 77 rfl (by kernel_rfl)
                    clear hs hd hg
                    have l := blk_cell (blk_keep hb HQ11.out) 0 _ rfl
                    go_simp
                    exact ⟨Below.refl _ _, rfl⟩
                  · refine relOb_mk (o := ⟨some 79, _, _, _, _, _⟩) rfl (fun r V hc hf hg hs hb hd => ?_)
                    have h3 : r (.tmp 78) = .int .i64 (p : Int) := hd 3 78 rfl (by kernel_rfl)
                    clear hs hd hg
                    have hp := HP31.out
                    have hs1 := shl32 hp
                    go_simp
                    exact ⟨Below.refl _ _, by simp⟩
                  · refine relOb_mk (o := ⟨some 80, _, _, _, _, _⟩) rfl (fun r V hc hf hg hs hb hd => ?_)
                    have h1 : r (.tmp 76) = .int .u32 (B : Int) := hd 1 76 rfl (by kernel_rfl)
                    have h4 : r (.tmp 79) = .int .u32 ((pw p : Nat) : Int) := hd 4 79 rfl (by kernel_rfl)
                    clear hs hd hg
                    have hs1 := or_step32 HP31.out HBB.out
                    go_simp
                    exact ⟨Below.refl _ _, rfl⟩
                  · refine relOb_mk (o := ⟨some 81, _, _, _, _, _⟩) rfl (fun r V hc hf hg hs hb hd => ?_)
                    have x9 : r (.tmp 9) = .pointer (some ⟨g9, 0, none⟩) := hs 9 (by kernel_rfl)
                    clear hs hd hg
                    go_simp
                    exact ⟨Below.refl _ _, rfl⟩
                · intro a V hb hx
                  have h0 : a.eval (.tmp 75) = .pointer (some ⟨g9, 4, none⟩) := hx 0 75 rfl rfl
                  have h1 : a.eval (.tmp 76) = .int .u32 (B : Int) := hx 1 76 rfl rfl
                  have h2 : a.eval (.tmp 77) = .pointer (some ⟨g11, 0, none⟩) := hx 2 77 rfl rfl
                  have h3 : a.eval (.tmp 78) = .int .i64 (p : Int) := hx 3 78 rfl rfl
                  have h4 : a.eval (.tmp 79) = .int .u32 ((pw p : Nat) : Int) := hx 4 79 rfl rfl
                  have h5 : a.eval (.tmp 80) = .int .u32 ((withBit B p : Nat) : Int) := hx 5 80 rfl rfl
                  have h6 : a.eval (.tmp 81) = .pointer (some ⟨g9, 4, none⟩) := hx 6 81 rfl rfl
                  unfold fillAll
                  simp only [List.foldl_cons, List.foldl_nil, h0, h1, h2, h3, h4, h5, h6, Act.put, List.setIfInBounds_toArray, List.set_cons_zero, List.set_cons_succ]
                  clear h0 h1 h2 h3 h4 h5 h6 hx
                  have HBV := Lib.hid hb
                  have HQ9V := Lib.hid (blk_keep hb HQ91.out)
                  clear hb
                  refine wpAny_ready (rs := [7]) (by kernel_rfl) (by simp) (AllReady.cons (o := ⟨none, _, _, _, _, _⟩) rfl (fun K hK => ?_) AllReady.nil)
                  have c0 := blk_cell HQ9V.out 4 _ rfl
                  have f0 := blk_free HQ9V.out 4
                  have hl := blk_lt HQ9V.out
                  go_simp
                  clear c0 f0 hl
                  refine name_K ?_
                  intro VZ hVZ
                  have ho : Only g9 V VZ := by rw [hVZ]; exact (Only.refl g9 V).setCell rfl _
                  have HQZ : Hid (VZ.heap[g9]? = some (.cells #[.int .u64 (ofN x.tr : Int), .int .u64 ((withI 0 q0 : Nat) : Int), .int .u64 ((withI 0 sp.2 : Nat) : Int), .int .u32 (A : Int), .int .u32 ((withBit B p : Nat) : Int), .int .u64 (rowS L i : Int)] 49)) := Lib.hid (by rw [hVZ]; exact blk_set HQ9V.out 4 _)
                  have HWZ : Hid (WX (fun y => y = g9) wN VZ) := Lib.hid ((HWX1.out.trans (WX.of_below HBV.out)).trans (WX.of_only ho rfl))
                  clear hVZ ho HQ9V HBV
                  refine hK _ _ ?_
                  clear hK K
                  refine wpAny_done (by kernel_rfl) ?_ _
                  go_wp2_with fail
                  rw [← HNA.out]
                  go_roundg (nn - (k + 1))
                  case rel => exact ⟨k + 1, k_next HK.out HLK.out, by go_num, by rw [HE.out.1, HE.out.2]; exact HQZ.out, HWZ.out⟩
                  case measure => exact k_less HK.out HLK.out
              | false =>
                have HE : Hid (sideS (x.nd.take (k + 1)) false = withBit A p ∧ sideS (x.nd.take (k + 1)) true = B) := Lib.hid ⟨by rw [side_yes HPK.out, hA]; exact withI_nat HP31.out, by rw [side_no HPK.out (by decide)]; exact hB⟩
                clear hA hB HQ9K
                go_upto_region 14 with fail
                clear n1
                refine wp_region_rel (by kernel_rfl) [7] 10 [0, 1, 2, 3, 4, 5, 6] [82, 83, 84, 85, 86, 87, 88] #[true, true, true, true, true, true, true, false] 1 [(fun v _ => v = .pointer (some ⟨g9, 3, none⟩)), (fun v _ => v = .int .u32 (A : Int)), (fun v _ => v = .pointer (some ⟨g11, 0, none⟩)), (fun v _ => v = .int .i64 (p : Int)), (fun v _ => v = .int .u32 ((pw p : Nat) : Int)), (fun v _ => v = .int .u32 ((withBit A p : Nat) : Int)), (fun v _ => v = .pointer (some ⟨g9, 3, none⟩)), (fun _ _ => True)] (by kernel_rfl) (by kernel_rfl) (by kernel_rfl) (by kernel_rfl) (by kernel_rfl) rfl (by kernel_rfl) rfl ?_ ?_ ?_
                · exact ⟨stays_is _, stays_is _, stays_is _, stays_is _, stays_is _, stays_is _, stays_is _, stays_true, trivial⟩
                · refine ⟨?_, ?_, ?_, ?_, ?_, ?_, ?_, trivial⟩
                  · refine relOb_mk (o := ⟨some 82, _, _, _, _, _⟩) rfl (fun r V hc hf hg hs hb hd => ?_)
                    have x9 : r (.tmp 9) = .pointer (some ⟨g9, 0, none⟩) := hs 9 (by kernel_rfl)
                    clear hs hd hg
                    go_simp
                    exact ⟨Below.refl _ _, rfl⟩
                  · refine relOb_mk (o := ⟨some 83, _, _, _, _, _⟩) rfl (fun r V hc hf hg hs hb hd => ?_)
                    have h0 : r (.tmp 82) = .pointer (some ⟨g9, 3, none⟩) := hd 0 82 rfl (by kernel_rfl)
                    clear hs hd hg
                    have l := blk_cell (blk_keep hb HQ91.out) 3 _ rfl
                    go_simp
                    exact ⟨Below.refl _ _, rfl⟩
                  · refine relOb_mk (o := ⟨some 84, _, _, _, _, _⟩) rfl (fun r V hc hf hg hs hb hd => ?_)
                    have x11 : r (.tmp 11) = .pointer (some ⟨g11, 0, none⟩) := hs 11 (by kernel_rfl)
                    clear hs hd hg
                    go_simp
                    exact ⟨Below.refl _ _, rfl⟩
                  · refine relOb_mk (o := ⟨some 85, _, _, _, _, _⟩) rfl (fun r V hc hf hg hs hb hd => ?_)
                    have h2 : r (.tmp 84) = .pointer (some ⟨g11, 0, none⟩) := hd 2 84 rfl (by kernel_rfl)
                    clear hs hd hg
                    have l := blk_cell (blk_keep hb HQ11.out) 0 _ rfl
                    go_simp
                    exact ⟨Below.refl _ _, rfl⟩
                  · refine relOb_mk (o := ⟨some 86, _, _, _, _, _⟩) rfl (fun r V hc hf hg hs hb hd => ?_)
                    have h3 : r (.tmp 85) = .int .i64 (p : Int) := hd 3 85 rfl (by kernel_rfl)
                    clear hs hd hg
                    have hp := HP31.out
                    have hs1 := shl32 hp
                    go_simp
                    exact ⟨Below.refl _ _, by simp⟩
                  · refine relOb_mk (o := ⟨some 87, _, _, _, _, _⟩) rfl (fun r V hc hf hg hs hb hd => ?_)
                    have h1 : r (.tmp 83) = .int .u32 (A : Int) := hd 1 83 rfl (by kernel_rfl)
                    have h4 : r (.tmp 86) = .int .u32 ((pw p : Nat) : Int) := hd 4 86 rfl (by kernel_rfl)
                    clear hs hd hg
                    have hs1 := or_step32 HP31.out HA.out
                    go_simp
                    exact ⟨Below.refl _ _, rfl⟩
                  · refine relOb_mk (o := ⟨some 88, _, _, _, _, _⟩) rfl (fun r V hc hf hg hs hb hd => ?_)
                    have x9 : r (.tmp 9) = .pointer (some ⟨g9, 0, none⟩) := hs 9 (by kernel_rfl)
                    clear hs hd hg
                    go_simp
                    exact ⟨Below.refl _ _, rfl⟩
                · intro a V hb hx
                  have h0 : a.eval (.tmp 82) = .pointer (some ⟨g9, 3, none⟩) := hx 0 82 rfl rfl
                  have h1 : a.eval (.tmp 83) = .int .u32 (A : Int) := hx 1 83 rfl rfl
                  have h2 : a.eval (.tmp 84) = .pointer (some ⟨g11, 0, none⟩) := hx 2 84 rfl rfl
                  have h3 : a.eval (.tmp 85) = .int .i64 (p : Int) := hx 3 85 rfl rfl
                  have h4 : a.eval (.tmp 86) = .int .u32 ((pw p : Nat) : Int) := hx 4 86 rfl rfl
                  have h5 : a.eval (.tmp 87) = .int .u32 ((withBit A p : Nat) : Int) := hx 5 87 rfl rfl
                  have h6 : a.eval (.tmp 88) = .pointer (some ⟨g9, 3, none⟩) := hx 6 88 rfl rfl
                  unfold fillAll
                  simp only [List.foldl_cons, List.foldl_nil, h0, h1, h2, h3, h4, h5, h6, Act.put, List.setIfInBounds_toArray, List.set_cons_zero, List.set_cons_succ]
                  clear h0 h1 h2 h3 h4 h5 h6 hx
                  have HBV := Lib.hid hb
                  have HQ9V := Lib.hid (blk_keep hb HQ91.out)
                  clear hb
                  refine wpAny_ready (rs := [7]) (by kernel_rfl) (by simp) (AllReady.cons (o := ⟨none, _, _, _, _, _⟩) rfl (fun K hK => ?_) AllReady.nil)
                  have c0 := blk_cell HQ9V.out 3 _ rfl
                  have f0 := blk_free HQ9V.out 3
                  have hl := blk_lt HQ9V.out
                  go_simp
                  clear c0 f0 hl
                  refine name_K ?_
                  intro VZ hVZ
                  have ho : Only g9 V VZ := by rw [hVZ]; exact (Only.refl g9 V).setCell rfl _
                  have HQZ : Hid (VZ.heap[g9]? = some (.cells #[.int .u64 (ofN x.tr : Int), .int .u64 ((withI 0 q0 : Nat) : Int), .int .u64 ((withI 0 sp.2 : Nat) : Int), .int .u32 ((withBit A p : Nat) : Int), .int .u32 (B : Int), .int .u64 (rowS L i : Int)] 49)) := Lib.hid (by rw [hVZ]; exact blk_set HQ9V.out 3 _)
                  have HWZ : Hid (WX (fun y => y = g9) wN VZ) := Lib.hid ((HWX1.out.trans (WX.of_below HBV.out)).trans (WX.of_only ho rfl))
                  clear hVZ ho HQ9V HBV
                  refine hK _ _ ?_
                  clear hK K
                  refine wpAny_done (by kernel_rfl) ?_ _
                  go_wp2_with fail
                  rw [← HNA.out]
                  go_roundg (nn - (k + 1))
                  case rel => exact ⟨k + 1, k_next HK.out HLK.out, by go_num, by rw [HE.out.1, HE.out.2]; exact HQZ.out, HWZ.out⟩
                  case measure => exact k_less HK.out HLK.out
            · have d5 : ¬ (k : Int) < nn := by omega
              have hkn : x.nd.take k = x.nd := List.take_of_length_le (by have := HNN.out; omega)
              rw [hkn] at hq
              have HQ9F := Lib.hid hq
              have HQ6F := Lib.hid (hwx.keep HGN.out.1 HMN.out)
              have HOF := Lib.hid (hwx.own HON.out (fun k hk => HGN.out.2 k hk))
              have HBF : Hid (Below w1.heap.size w1 wq) := Lib.hid (below_on HB8.out (WX.below HBN.out hwx (fun y hy => by rw [hy]; exact HG9.out)))
              clear hk hq hwx hlk hkn HQ9K HWX HK
              obtain ⟨XS, hXS⟩ : ∃ X, ((mksS L).take i).flatMap mkC = X := ⟨_, rfl⟩
              obtain ⟨q, hq9⟩ : ∃ q, ((mksS L).take i).length = q := ⟨_, rfl⟩
              have hq1 : q ≤ 64 := by rw [← hq9, List.length_take]; have := HLT.out; have := HS4.out; omega
              obtain ⟨i0, hi, hz0, hz1, hz2⟩ := info_parts info_mk
              have HXS := Lib.hid hXS
              have HQN := Lib.hid hq9
              have HMK : Hid ([.int .u64 (ofN x.tr : Int), .int .u64 ((withI 0 q0 : Nat) : Int), .int .u64 ((withI 0 sp.2 : Nat) : Int), .int .u32 (sideS x.nd false : Int), .int .u32 (sideS x.nd true : Int), .int .u64 (rowS L i : Int)] = mkC (mkR L x (rowS L i))) := Lib.hid (by unfold mkR mkC; rw [HF.out.1, HF.out.2])
              have HSR : Hid (SrcAt (wq.alloc (.cells #[.int .u64 (ofN x.tr : Int), .int .u64 ((withI 0 q0 : Nat) : Int), .int .u64 ((withI 0 sp.2 : Nat) : Int), .int .u32 (sideS x.nd false : Int), .int .u32 (sideS x.nd true : Int), .int .u64 (rowS L i : Int)] 49)) (some ⟨wq.heap.size, 0, none⟩) 1 [.int .u64 (ofN x.tr : Int), .int .u64 ((withI 0 q0 : Nat) : Int), .int .u64 ((withI 0 sp.2 : Nat) : Int), .int .u32 (sideS x.nd false : Int), .int .u32 (sideS x.nd true : Int), .int .u64 (rowS L i : Int)]) := Lib.hid (src_blk (alloc1 wq _ (Below.refl _ _)) rfl (by rw [HMK.out]; exact mk_one _))
              have HOW := Lib.hid (own_below (below1 wq (.cells #[.int .u64 (ofN x.tr : Int), .int .u64 ((withI 0 q0 : Nat) : Int), .int .u64 ((withI 0 sp.2 : Nat) : Int), .int .u32 (sideS x.nd false : Int), .int .u32 (sideS x.nd true : Int), .int .u64 (rowS L i : Int)] 49)) HOF.out)
              have HQW := Lib.hid (blk_keep (below1 wq (.cells #[.int .u64 (ofN x.tr : Int), .int .u64 ((withI 0 q0 : Nat) : Int), .int .u64 ((withI 0 sp.2 : Nat) : Int), .int .u32 (sideS x.nd false : Int), .int .u32 (sideS x.nd true : Int), .int .u64 (rowS L i : Int)] 49)) HQ6F.out)
              have HBW := Lib.hid (below_on HBF.out (below1 wq (.cells #[.int .u64 (ofN x.tr : Int), .int .u64 ((withI 0 q0 : Nat) : Int), .int .u64 ((withI 0 sp.2 : Nat) : Int), .int .u32 (sideS x.nd false : Int), .int .u32 (sideS x.nd true : Int), .int .u64 (rowS L i : Int)] 49)))
              rw [hXS, hq9] at HOW
              have hsz : g6 + 1 ≤ (wq.alloc (.cells #[.int .u64 (ofN x.tr : Int), .int .u64 ((withI 0 q0 : Nat) : Int), .int .u64 ((withI 0 sp.2 : Nat) : Int), .int .u32 (sideS x.nd false : Int), .int .u32 (sideS x.nd true : Int), .int .u64 (rowS L i : Int)] 49)).heap.size := blk_lt HQW.out
              have x0 := blk_cell HQ6F.out 0 _ rfl
              have y0 := blk_cell HQ9F.out 0 _ rfl; have y1 := blk_cell HQ9F.out 1 _ rfl; have y2 := blk_cell HQ9F.out 2 _ rfl; have y3 := blk_cell HQ9F.out 3 _ rfl; have y4 := blk_cell HQ9F.out 4 _ rfl; have y5 := blk_cell HQ9F.out 5 _ rfl
              clear hXS hq9
              go_wp2_with (at_builtin; refine wpList_append_src rfl _ _ 31 rfl (g6 + 1) 49 i0 (.agg #[.int .u64 0, .int .u64 0, .int .u64 0, .int .u32 0, .int .u32 0, .int .u64 0]) 6 40 Try.underlying31 hi hz0 hz1 hz2 rfl (by decide) _ q XS rfl HOW.out (some ⟨wq.heap.size, 0, none⟩) 1 1 [.int .u64 (ofN x.tr : Int), .int .u64 ((withI 0 q0 : Nat) : Int), .int .u64 ((withI 0 sp.2 : Nat) : Int), .int .u32 (sideS x.nd false : Int), .int .u32 (sideS x.nd true : Int), .int .u64 (rowS L i : Int)] rfl rfl HSR.out (by unfold maxLen; omega) (by omega) hsz ?_; intro v5 W5 hown5 hg5; obtain ⟨a5, c5, rfl⟩ := k_sh hown5; have hq5 := grown_keep hg5 HQW.out (fun hk => by have := (HOW.out.lt _ hk).1; omega); have c0 := blk_cell hq5 0 _ rfl; have f0 := blk_free hq5 0; have hl := blk_lt hq5)
              clear c0 f0 hl x0 y0 y1 y2 y3 y4 y5
              refine name_any ?_
              intro W6 hW6
              have ho6 : Only g6 W5 W6 := by rw [hW6]; exact (Only.refl g6 W5).setCell rfl _
              have HQ6 : Hid (W6.heap[g6]? = some (.cells #[.slice a5 (q + 1) c5, .slice none 0 0, .int .u64 (al : Int), .int .u32 (pt : Int), .int .u64 (tr : Int)] 36)) := Lib.hid (by rw [hW6]; exact blk_set hq5 0 _)
              have HB5 : Hid (Below w1.heap.size w1 W5) := Lib.hid (HBW.out.grown hg5 HBW.out.size (fun k hk => by have := (HOW.out.lt _ hk).1; have := HG6.out; omega))
              have HB6 : Hid (Below w1.heap.size w1 W6) := Lib.hid (Only.below HB5.out HG6.out HB5.out.size ho6)
              have HO6 : Hid (W6.ownsRow (g6 + 1) 49 6 (.slice a5 (q + 1) c5) ((mksS L).take (i + 1)).length (((mksS L).take (i + 1)).flatMap mkC)) := Lib.hid (by
                have h := (WX.of_only (X := fun y => y = g6) ho6 rfl).own hown5 (fun k hk e => by have := (World.ownsRow.lt hown5 _ hk).1; omega)
                rw [mks_take HYX.out]
                refine k_snoc HMK.out ?_
                rw [HXS.out, HQN.out]
                exact h)
              clear hW6 ho6 hq5 hown5 hg5 hsz hq1
              go_wp2_with fail
              rw [← HXX.out, ← HTA.out]
              go_roundg (n4 - (i + 1))
              case rel => exact ⟨i + 1, _, k_next HI.out HLT.out, by go_num, HQ6.out, HO6.out, HB6.out⟩
              case measure => exact k_less HI.out HLT.out
      · skip
        have d2 : ¬ (i : Int) < n4 := by omega
        have hin : i = n4 := by have := HI.out; omega
        have ho := HO.out
        rw [hin, List.take_of_length_le (by rw [mks_len, HN4.out]; exact Nat.le_refl _)] at ho
        obtain ⟨wz, rfl⟩ : ∃ W, W = wr := ⟨_, rfl⟩
        obtain ⟨B2, hB2⟩ : ∃ b, b = wz.heap.size := ⟨_, rfl⟩
        have HB2 : Hid (B2 = wz.heap.size ∧ g6 < B2) := Lib.hid ⟨hB2, by rw [hB2]; exact blk_lt HQM.out⟩
        have HOR := Lib.hid ho
        have HRB : Hid (∀ k, vr.ownBlock = some k → g6 < k ∧ k < B2) := Lib.hid (fun k hk => by have := ho.lt _ hk; omega)
        clear ho hin hlt HI HO hB2
        have l1 := blk_cell (blk_keep HB.out HQL1.out) 1 _ rfl
        go_upto_region 19 with fail
        clear l1
        go_loopg [100] n2 (fun g v wr => ∃ (j : Nat) (vl : Value), j + g = n2 ∧ v = .int .i64 (j : Int) ∧ wr.heap[g6]? = some (.cells #[vr, vl, .int .u64 (al : Int), .int .u32 (pt : Int), .int .u64 (tr : Int)] 36) ∧ wr.ownsRow B2 33 1 vl ((liesS L).take j).length (((liesS L).take j).flatMap u64C) ∧ WX (fun y => y = g6) wz wr)
        case atStart => exact ⟨0, .slice none 0 0, by omega, rfl, HQM.out, by rw [List.take_zero]; exact World.ownsRow_nil _ _ _ _, WX.refl _ _⟩
        case round =>
          obtain ⟨j, vl, hj, rfl, hq, ho, hwx⟩ := hrel
          have HJ := Lib.hid hj
          have HQV := Lib.hid hq
          have HOL := Lib.hid ho
          have HWX := Lib.hid hwx
          have HBZ : Hid (Below w1.heap.size w1 wr) := Lib.hid (WX.below HB.out hwx (fun y hy => by rw [hy]; exact HG6.out))
          clear hj hq ho hwx
          by_cases hlj : j < n2
          · have d3 : (0 : Int) ≤ j := by omega
            have d4 : (j : Int) < n2 := by omega
            have e2 := k_succ hlj (Nat.le_trans HS2.out (by decide))
            have HLJ := Lib.hid hlj
            obtain ⟨pt1, hpt⟩ : ∃ p, L.po.l[j]? = some p := ⟨_, List.getElem?_eq_getElem (by rw [HN2.out]; exact hlj)⟩
            have HPJ := Lib.hid hpt
            obtain ⟨PX, hPX⟩ : ∃ a, L.po.a = a := ⟨_, rfl⟩
            have HPX := Lib.hid hPX
            have hrow := HLW.out.po.row
            rw [hPX] at hrow ⊢
            rcases hrow with hnil | ⟨ob, of_, hob, hoc⟩
            · rw [hnil] at hpt; cases hpt
            subst hob
            have y0 := cell_later (below_on HB1.out HBZ.out) (hoc j _ hpt 0 _ rfl)
            have y1 := cell_later (below_on HB1.out HBZ.out) (hoc j _ hpt 1 _ rfl)
            rw [Nat.add_zero] at y0
            have HWP : Hid (∀ V, Calls Try.prog 24 #[.int .u64 0, .int .i64 pt1.2] V fun e w' => e = .returned (.int .u64 ((withI 0 pt1.2 : Nat) : Int)) ∧ V = w') := Lib.hid (fun V => bwithI_any 0 pt1.2 V (by decide))
            clear hlj hpt hPX hoc
            go_upto_region 21 with fail
            clear y0 y1
            have hbn := below1 wr (.cells #[.string pt1.1, .int .i64 pt1.2] 66)
            have hqn := alloc1 wr (.cells #[.string pt1.1, .int .i64 pt1.2] 66) (Below.refl _ _)
            obtain ⟨V13, hV13⟩ : ∃ V, V = wr.alloc (.cells #[.string pt1.1, .int .i64 pt1.2] 66) := ⟨_, rfl⟩
            rw [← hV13] at hbn hqn ⊢
            obtain ⟨g13, hg13⟩ : ∃ g, g = wr.heap.size := ⟨_, rfl⟩
            rw [← hg13] at hqn ⊢
            have HQ6V := Lib.hid (blk_keep hbn HQV.out)
            have HOL13 := Lib.hid (own_below hbn HOL.out)
            have HQ13 := Lib.hid hqn
            have HWX13 := Lib.hid (HWX.out.trans (WX.of_below hbn))
            clear hbn hqn hV13 hg13 HQV HOL HWX
            refine wp_region_rel (by kernel_rfl) [6, 7, 8] 10 [0, 1, 2, 3, 4, 5] [104, 105, 106, 107, 108, 109] #[true, true, true, true, true, true, false, false, false] 3 [(fun v _ => v = .pointer (some ⟨g6, 1, none⟩)), (fun v _ => v = vl), (fun v _ => v = .pointer (some ⟨g13, 1, none⟩)), (fun v _ => v = .int .i64 pt1.2), (fun v _ => v = .int .u64 ((withI 0 pt1.2 : Nat) : Int)), (fun v V => ∃ g, v = .slice (some ⟨g, 0, none⟩) 1 1 ∧ V.heap[g]? = some (.cells #[.int .u64 ((withI 0 pt1.2 : Nat) : Int)] 33)), (fun _ _ => True), (fun _ _ => True), (fun _ _ => True)] (by kernel_rfl) (by kernel_rfl) (by kernel_rfl) (by kernel_rfl) (by kernel_rfl) rfl (by kernel_rfl) rfl ?_ ?_ ?_
            · exact ⟨stays_is _, stays_is _, stays_is _, stays_is _, stays_is _, (fun v W W2 h hb => by obtain ⟨g, h1, h2⟩ := h; exact ⟨g, h1, blk_keep hb h2⟩), stays_true, stays_true, stays_true, trivial⟩
            · refine ⟨?_, ?_, ?_, ?_, ?_, ?_, trivial⟩
              · refine relOb_mk (o := ⟨some 104, _, _, _, _, _⟩) rfl (fun r V hc hf hg hs hb hd => ?_)
                have x6 : r (.tmp 6) = .pointer (some ⟨g6, 0, none⟩) := hs 6 (by kernel_rfl)
                clear hs hd hg
                go_simp
                exact ⟨Below.refl _ _, rfl⟩
              · refine relOb_mk (o := ⟨some 105, _, _, _, _, _⟩) rfl (fun r V hc hf hg hs hb hd => ?_)
                have h0 : r (.tmp 104) = .pointer (some ⟨g6, 1, none⟩) := hd 0 104 rfl (by kernel_rfl)
                clear hs hd hg
                have l := blk_cell (blk_keep hb HQ6V.out) 1 _ rfl
                go_simp
                exact ⟨Below.refl _ _, rfl⟩
              · refine relOb_mk (o := ⟨some 106, _, _, _, _, _⟩) rfl (fun r V hc hf hg hs hb hd => ?_)
                have x13 : r (.tmp 13) = .pointer (some ⟨g13, 0, none⟩) := hs 13 (by kernel_rfl)
                clear hs hd hg
                go_simp
                exact ⟨Below.refl _ _, rfl⟩
              · refine relOb_mk (o := ⟨some 107, _, _, _, _, _⟩) rfl (fun r V hc hf hg hs hb hd => ?_)
                have h2 : r (.tmp 106) = .pointer (some ⟨g13, 1, none⟩) := hd 2 106 rfl (by kernel_rfl)
                clear hs hd hg
                have l := blk_cell (blk_keep hb HQ13.out) 1 _ rfl
                go_simp
                exact ⟨Below.refl _ _, rfl⟩
              · refine relOb_mk (o := ⟨some 108, _, _, _, _, _⟩) rfl (fun r V hc hf hg hs hb hd => ?_)
                have h3 : r (.tmp 107) = .int .i64 pt1.2 := hd 3 107 rfl (by kernel_rfl)
                clear hs hd hg
                go_simp
                refine (HWP.out V).mono ?_
                rintro e w' ⟨rfl, rfl⟩
                exact ⟨_, rfl, Below.refl _ _, rfl⟩
              · refine relOb_mk (o := ⟨some 109, _, _, _, _, _⟩) rfl (fun r V hc hf hg hs hb hd => ?_)
                have h4 : r (.tmp 108) = .int .u64 ((withI 0 pt1.2 : Nat) : Int) := hd 4 108 rfl (by kernel_rfl)
                clear hs hd hg
                go_simp
                exact ⟨below1 V _, ⟨_, rfl, alloc1 V _ (Below.refl _ _)⟩⟩
            · intro a V hb hx
              have h0 : a.eval (.tmp 104) = .pointer (some ⟨g6, 1, none⟩) := hx 0 104 rfl rfl
              have h1 : a.eval (.tmp 105) = vl := hx 1 105 rfl rfl
              have h2 : a.eval (.tmp 106) = .pointer (some ⟨g13, 1, none⟩) := hx 2 106 rfl rfl
              have h3 : a.eval (.tmp 107) = .int .i64 pt1.2 := hx 3 107 rfl rfl
              have h4 : a.eval (.tmp 108) = .int .u64 ((withI 0 pt1.2 : Nat) : Int) := hx 4 108 rfl rfl
              have h5 : (fun v V => ∃ g, v = .slice (some ⟨g, 0, none⟩) 1 1 ∧ V.heap[g]? = some (.cells #[.int .u64 ((withI 0 pt1.2 : Nat) : Int)] 33)) (a.eval (.tmp 109)) V := hx 5 109 rfl rfl
              obtain ⟨v109, e109⟩ : ∃ v, a.eval (.tmp 109) = v := ⟨_, rfl⟩
              rw [e109] at h5
              unfold fillAll
              simp only [List.foldl_cons, List.foldl_nil, h0, h1, h2, h3, h4, e109, Act.put, List.setIfInBounds_toArray, List.set_cons_zero, List.set_cons_succ]
              clear h0 h1 h2 h3 h4 e109 hx
              obtain ⟨g5, rfl, hq5⟩ := h5
              have HBV := Lib.hid hb
              have HQ5 := Lib.hid hq5
              have HOW := Lib.hid (own_below hb HOL13.out)
              have HQW := Lib.hid (blk_keep hb HQ6V.out)
              have HWV := Lib.hid (HWX13.out.trans (WX.of_below hb))
              clear hb hq5
              obtain ⟨XS, hXS⟩ : ∃ X, ((liesS L).take j).flatMap u64C = X := ⟨_, rfl⟩
              obtain ⟨q, hq9⟩ : ∃ q, ((liesS L).take j).length = q := ⟨_, rfl⟩
              have hq1 : q ≤ 64 := by rw [← hq9, List.length_take]; have := HLJ.out; have := HS2.out; omega
              have HXS := Lib.hid hXS
              have HQN := Lib.hid hq9
              rw [hXS, hq9] at HOW
              clear hXS hq9
              have hsz : B2 ≤ V.heap.size := by have := HWV.out.size; have := HB2.out; omega
              obtain ⟨i0, hi, hz0, hz1, hz2⟩ := info_parts info_u64
              refine wpAny_ready (rs := [6]) (by kernel_rfl) (by simp) (AllReady.cons (o := ⟨some 110, _, _, _, _, _⟩) rfl (fun K hK => ?_) AllReady.nil)
              refine step_append_src rfl (.tmp 105) (.tmp 109) 32 rfl B2 33 i0 (.int .u64 0) 1 8 Try.underlying32 hi hz0 hz1 hz2 rfl (by decide) vl q XS rfl HOW.out (some ⟨g5, 0, none⟩) 1 1 [.int .u64 ((withI 0 pt1.2 : Nat) : Int)] rfl rfl (src_one rfl HQ5.out) (by unfold maxLen; omega) (by omega) hsz ?_
              intro v5 W5 hown5 hg5
              obtain ⟨a5, c5, rfl⟩ := k_sh hown5
              have HQ65 := Lib.hid (grown_keep hg5 HQW.out (fun hk => by have := (HOW.out.lt _ hk).1; have := HB2.out; omega))
              have HW5 : Hid (WX (fun y => y = g6) wz W5) := Lib.hid (HWV.out.trans_grown hg5 (fun k hk => by have := (HOW.out.lt _ hk).1; have := HB2.out; omega))
              have HO5 := Lib.hid hown5
              clear hown5 hg5
              refine hK _ _ ?_
              clear hK K hsz
              simp only [Act.put, List.setIfInBounds_toArray, List.set_cons_zero, List.set_cons_succ]
              refine wpAny_ready (rs := [7]) (by kernel_rfl) (by simp) (AllReady.cons (o := ⟨some 111, _, _, _, _, _⟩) rfl (fun K hK => ?_) AllReady.nil)
              go_simp
              refine hK _ _ ?_
              clear hK K
              refine wpAny_ready (rs := [8]) (by kernel_rfl) (by simp) (AllReady.cons (o := ⟨none, _, _, _, _, _⟩) rfl (fun K hK => ?_) AllReady.nil)
              have c0 := blk_cell HQ65.out 1 _ rfl
              have f0 := blk_free HQ65.out 1
              have hl := blk_lt HQ65.out
              go_simp
              clear c0 f0 hl
              refine name_K ?_
              intro W6 hW6
              have ho6 : Only g6 W5 W6 := by rw [hW6]; exact (Only.refl g6 W5).setCell rfl _
              have HQ6 : Hid (W6.heap[g6]? = some (.cells #[vr, .slice a5 (q + 1) c5, .int .u64 (al : Int), .int .u32 (pt : Int), .int .u64 (tr : Int)] 36)) := Lib.hid (by rw [hW6]; exact blk_set HQ65.out 1 _)
              have HW6 : Hid (WX (fun y => y = g6) wz W6) := Lib.hid (HW5.out.trans (WX.of_only ho6 rfl))
              have HO6 : Hid (W6.ownsRow B2 33 1 (.slice a5 (q + 1) c5) ((liesS L).take (j + 1)).length (((liesS L).take (j + 1)).flatMap u64C)) := Lib.hid (by
                have h := (WX.of_only (X := fun y => y = g6) ho6 rfl).own HO5.out (fun k hk e => by have := (World.ownsRow.lt HO5.out _ hk).1; have := HB2.out; omega)
                rw [lies_take HPJ.out]
                refine k_snoc (x := withI 0 pt1.2) rfl ?_
                rw [HXS.out, HQN.out]
                exact h)
              clear hW6 ho6 hq1
              refine hK _ _ ?_
              clear hK K
              refine wpAny_done (by kernel_rfl) ?_ _
              go_wp2_with fail
              rw [← HPX.out]
              go_roundg (n2 - (j + 1))
              case rel => exact ⟨j + 1, _, k_next HJ.out HLJ.out, by go_num, HQ6.out, HO6.out, HW6.out⟩
              case measure => exact k_less HJ.out HLJ.out
          · have d4 : ¬ (j : Int) < n2 := by omega
            have hjn : j = n2 := by have := HJ.out; omega
            have ho := HOL.out
            rw [hjn, List.take_of_length_le (by unfold liesS; rw [List.length_map, HN2.out]; exact Nat.le_refl _)] at ho
            have hr := HWX.out.own HOR.out (fun k hk e => by have := (HRB.out k hk).1; omega)
            obtain ⟨ar, cr, rfl⟩ := k_sh hr
            obtain ⟨al2, cl2, rfl⟩ := k_sh ho
            obtain ⟨NR, hNR⟩ : ∃ n, (mksS L).length = n := ⟨_, rfl⟩
            obtain ⟨NL, hNL⟩ : ∃ n, (liesS L).length = n := ⟨_, rfl⟩
            have HOL2 := Lib.hid ho
            have HR2 := Lib.hid hr
            have HNRL := Lib.hid (And.intro hNR hNL)
            have hq6 := HQV.out
            rw [hNR, hNL] at hq6
            have y0 := blk_cell hq6 0 _ rfl; have y1 := blk_cell hq6 1 _ rfl; have y2 := blk_cell hq6 2 _ rfl; have y3 := blk_cell hq6 3 _ rfl; have y4 := blk_cell hq6 4 _ rfl
            have HQ2Z := Lib.hid (blk_keep HBZ.out HQ21.out)
            have c0 := blk_cell HQ2Z.out 0 _ rfl
            have f0 := blk_free HQ2Z.out 0
            have c1 := blk_cell HQ2Z.out 1 _ rfl
            have f1 := blk_free HQ2Z.out 1
            have c2 := blk_cell HQ2Z.out 2 _ rfl
            have f2 := blk_free HQ2Z.out 2
            have c3 := blk_cell HQ2Z.out 3 _ rfl
            have f3 := blk_free HQ2Z.out 3
            have c4 := blk_cell HQ2Z.out 4 _ rfl
            have f4 := blk_free HQ2Z.out 4
            have hl := blk_lt HQ2Z.out
            clear ho hr hjn hlj hNR hNL hq6
            go_wp2_with fail
            clear y0 y1 y2 y3 y4
            clear c0 f0 c1 f1 c2 f2 c3 f3 c4 f4 hl
            refine name_any ?_
            intro WZ hWZ
            have ho : Only g2 wr WZ := by rw [hWZ]; exact (((((Only.refl g2 wr).setCell rfl _).setCell rfl _).setCell rfl _).setCell rfl _).setCell rfl _
            have hqz : WZ.heap[g2]? = some (.cells #[.slice ar NR cr, .slice al2 NL cl2, .int .u64 (al : Int), .int .u32 (pt : Int), .int .u64 (tr : Int)] 36) := by rw [hWZ]; exact blk_set (blk_set (blk_set (blk_set (blk_set HQ2Z.out 0 _) 1 _) 2 _) 3 _) 4 _
            have hbz : Below w.heap.size w WZ := Only.below (below_on HB1.out HBZ.out) HGE.out (below_on HB1.out HBZ.out).size ho
            have hg2 : g2 < w1.heap.size := blk_lt HQ21.out
            have hR := (WX.of_only (X := fun y => y = g2) ho rfl).own HR2.out (fun k hk e => by have := (HRB.out k hk).1; have := HG6.out; omega)
            have hL2 := (WX.of_only (X := fun y => y = g2) ho rfl).own HOL2.out (fun k hk e => by have := (World.ownsRow.lt HOL2.out _ hk).1; have := HG6.out; have := HB2.out; omega)
            obtain ⟨a1, c1, hv1, hs1⟩ := own_sl (l := mksS L) mk_len rfl hR
            obtain ⟨a2, c2, hv2, hs2⟩ := own_sl (l := liesS L) u64_len rfl hL2
            injection hv1 with hv1
            injection hv2 with hv2
            subst hv1
            subst hv2
            have e0 := blk_cell hqz 0 _ rfl
            have e1 := blk_cell hqz 1 _ rfl
            have e2 := blk_cell hqz 2 _ rfl
            have e3 := blk_cell hqz 3 _ rfl
            have e4 := blk_cell hqz 4 _ rfl
            have HEND : Hid (RowAt 6 mkC WZ ar (mksS L) ∧ RowAt 1 u64C WZ al2 (liesS L) ∧ Below w.heap.size w WZ) := Lib.hid ⟨hs1.row, hs2.row, hbz⟩
            clear hWZ ho hqz hR hL2 hs1 hs2 hbz
            refine bodyPost_ret (v := .tuple #[.agg #[.slice ar NR cr, .slice al2 NL cl2, .int .u64 (al : Int), .int .u32 (pt : Int), .int .u64 (tr : Int)], .int .i64 0]) (by simp [results, Try.results10, go_sem, e0, e1, e2, e3, e4]) rfl ?_
            obtain ⟨t1, t2, t3, t4, t5⟩ := HALL.out
            rw [t1, t2, t3, t4, t5]
            exact ⟨ar, cr, al2, cl2, NR, NL, rfl, HNRL.out.1.symm, HNRL.out.2.symm, HEND.out.1, HEND.out.2.1, HEND.out.2.2⟩
end Go.Proofs.Ytififkielmddpaa
