/-
  Layer 08: the document's Make.
-/
import Derived.Test.YtififkielmddpaaMkD
namespace Go.Proofs.Ytififkielmddpaa
open Go.RowKit
set_option maxRecDepth 100000
theorem info_mkr : (Try.prog.info? 50).map (fun i => (i.zero, i.size, i.bytes)) = some (some (.agg #[.int .u64 0, .int .u64 0, .int .u64 0, .int .u32 0, .int .u32 0, .int .u64 0]), 6, 40) := by kernel_rfl
theorem of_one (a : Int) : ofN [a] = withI 0 a := rfl
attribute [local irreducible] Sl.v hasBit mayS Rt.tr Rt.nd checkS pw withBit withI ofN oneI sideL sideS firstS aheadS secOf rowS tabS tabL mkR mkF mksS liesS mksL liesL allL ptsL trsL formedS badS conflictS

set_option maxHeartbeats 8000000 in
theorem rmake_is (L : Lay) (w : World) (hL : LayAt w L) :
    Calls Try.prog 11 #[.agg #[L.se.v, L.po.v, L.sg.v, L.rt.v]] w fun e w' => ∃ xa xc ya yc m n, e = .returned (.tuple #[.agg #[.slice xa m xc, .slice ya n yc, .int .u64 (allL L : Int), .int .u32 (ptsL L : Int), .int .u64 (trsL L : Int)], .int .i64 (checkS L).1]) ∧ m = (mksL L).length ∧ n = (liesL L).length ∧ RowAt 6 mkC w' xa (mksL L) ∧ RowAt 1 u64C w' ya (liesL L) ∧ Below w.heap.size w w' := by
  obtain ⟨c, hc1⟩ : ∃ c, (checkS L).1 = c := ⟨_, rfl⟩
  have HC1 := Lib.hid hc1
  have HTB : Hid (∀ W, Below w.heap.size w W → Calls Try.prog 26 #[.agg #[L.se.v, L.po.v, L.sg.v, L.rt.v]] W fun e w' => ∃ a m d, e = .returned (.tuple #[.slice a m d, .int .i64 c]) ∧ m = (tabL L).length ∧ SlAt 1 u64C w' ⟨a, d, tabL L⟩ ∧ Below W.heap.size W w') := Lib.hid (fun W hW => hc1 ▸ rtable_is L W (hL.below hW))
  have HLW := Lib.hid hL
  obtain ⟨n1, hn1⟩ : ∃ n, L.se.l.length = n := ⟨_, rfl⟩
  obtain ⟨n2, hn2⟩ : ∃ n, L.po.l.length = n := ⟨_, rfl⟩
  obtain ⟨n3, hn3⟩ : ∃ n, L.sg.l.length = n := ⟨_, rfl⟩
  obtain ⟨n4, hn4⟩ : ∃ n, L.rt.l.length = n := ⟨_, rfl⟩
  have HN1 := Lib.hid hn1
  have HN2 := Lib.hid hn2
  have HN3 := Lib.hid hn3
  have HN4 := Lib.hid hn4
  rw [hc1]
  rw [slv hn1, slv hn2, slv hn3, slv hn4] at HTB ⊢
  clear hn1 hn2 hn3 hn4 hL hc1
  go_enter Try.func11, Try.ntmps11
  go_upto_region 1 with fail
  refine name_last (os := [.cells #[.slice L.se.a n1 L.se.c, .slice L.po.a n2 L.po.c, .slice L.sg.a n3 L.sg.c, .slice L.rt.a n4 L.rt.c] 27, .cells #[.slice none 0 0, .slice none 0 0, .int .u64 0, .int .u32 0, .int .u64 0] 42]) (w0 := w) rfl ?_
  intro W hat hbw
  obtain ⟨gl, hgl⟩ : ∃ g, g = w.heap.size := ⟨_, rfl⟩
  obtain ⟨g2, hg2⟩ : ∃ g, g = gl + 1 := ⟨_, rfl⟩
  have q0 := hat 0 _ rfl
  have q1 := hat 1 _ rfl
  rw [Nat.add_zero, ← hgl] at q0
  rw [← hgl, ← hg2] at q1
  rw [← hgl, ← hg2]
  have HQL := Lib.hid q0
  have HQ2 := Lib.hid q1
  have HB0 := Lib.hid hbw
  have HGE : Hid (w.heap.size ≤ g2) := Lib.hid (by omega)
  clear hat hbw q0 q1 hgl hg2
  obtain ⟨l0, l1, l2, l3⟩ := k_box HQL.out
  go_wp2_with fail
  refine (HTB.out _ HB0.out).mono ?_
  rintro e w1 ⟨ta, tm, tc, rfl, htm, hT, hb⟩
  have HB1 := Lib.hid (below_on HB0.out hb)
  have HQL1 := Lib.hid (blk_keep hb HQL.out)
  have HQ21 := Lib.hid (blk_keep hb HQ2.out)
  have HT := Lib.hid hT
  have HTM := Lib.hid htm
  clear hb l0 l1 l2 l3 hT htm
  by_cases hc0 : c = 0
  rotate_left
  · have hcn : (c != 0) = true := by rw [bne_iff_ne]; exact hc0
    have HT0 : Hid (mksL L = [] ∧ liesL L = [] ∧ allL L = 0 ∧ ptsL L = 0 ∧ trsL L = 0) := Lib.hid (by
      have := HC1.out
      unfold mksL liesL allL ptsL trsL
      rw [this, if_neg hc0, if_neg hc0, if_neg hc0, if_neg hc0, if_neg hc0]
      exact ⟨rfl, rfl, rfl, rfl, rfl⟩)
    have c0 := blk_cell HQ21.out 0 _ rfl
    have f0 := blk_free HQ21.out 0
    have c1 := blk_cell HQ21.out 1 _ rfl
    have f1 := blk_free HQ21.out 1
    have c2 := blk_cell HQ21.out 2 _ rfl
    have f2 := blk_free HQ21.out 2
    have c3 := blk_cell HQ21.out 3 _ rfl
    have f3 := blk_free HQ21.out 3
    have c4 := blk_cell HQ21.out 4 _ rfl
    have f4 := blk_free HQ21.out 4
    have hl := blk_lt HQ21.out
    go_wp2_with fail
    clear c0 f0 c1 f1 c2 f2 c3 f3 c4 f4 hl
    refine name_any ?_
    intro WZ hWZ
    have ho : Only g2 w1 WZ := by rw [hWZ]; exact (((((Only.refl g2 w1).setCell rfl _).setCell rfl _).setCell rfl _).setCell rfl _).setCell rfl _
    have hqz : WZ.heap[g2]? = some (.cells #[.slice none 0 0, .slice none 0 0, .int .u64 0, .int .u32 0, .int .u64 0] 42) := by rw [hWZ]; exact blk_set (blk_set (blk_set (blk_set (blk_set HQ21.out 0 _) 1 _) 2 _) 3 _) 4 _
    have hbz : Below w.heap.size w WZ := Only.below HB1.out HGE.out HB1.out.size ho
    have e0 := blk_cell hqz 0 _ rfl
    have e1 := blk_cell hqz 1 _ rfl
    have e2 := blk_cell hqz 2 _ rfl
    have e3 := blk_cell hqz 3 _ rfl
    have e4 := blk_cell hqz 4 _ rfl
    clear hWZ ho hqz
    refine bodyPost_ret (v := .tuple #[.agg #[.slice none 0 0, .slice none 0 0, .int .u64 0, .int .u32 0, .int .u64 0], .int .i64 c]) (by simp [results, Try.results11, go_sem, e0, e1, e2, e3, e4]) rfl ?_
    obtain ⟨t1, t2, t3, t4, t5⟩ := HT0.out
    rw [t1, t2, t3, t4, t5]
    exact ⟨none, 0, none, 0, 0, 0, rfl, rfl, rfl, .inl rfl, .inl rfl, hbz⟩
  subst hc0
  have HM : Hid (mayS L = true) := Lib.hid (cs_zero HC1.out)
  have hsm := mayS_small HM.out
  have hn1 := HN1.out
  have hn2 := HN2.out
  have hn4 := HN4.out
  obtain ⟨al, h4⟩ : ∃ x, pw n4 - 1 = x := ⟨_, rfl⟩
  obtain ⟨pt, h2⟩ : ∃ x, pw n2 - 1 = x := ⟨_, rfl⟩
  obtain ⟨tr, h1⟩ : ∃ x, pw n1 - 1 = x := ⟨_, rfl⟩
  have HALL : Hid (mksL L = mksS L ∧ liesL L = liesS L ∧ allL L = al ∧ ptsL L = pt ∧ trsL L = tr) := Lib.hid (by
    unfold mksL liesL allL ptsL trsL
    rw [HC1.out, if_pos rfl, if_pos rfl, if_pos rfl, if_pos rfl, if_pos rfl, hn1, hn2, hn4]
    exact ⟨rfl, rfl, h4, h2, h1⟩)
  have HF1 : Hid (∀ V, Calls Try.prog 27 #[.int .i64 (n1 : Int)] V fun e w' => e = .returned (.int .u64 (tr : Int)) ∧ V = w') := Lib.hid (fun V => h1 ▸ first_any n1 n1 V (by omega))
  have HF2 : Hid (∀ V, Calls Try.prog 27 #[.int .i64 (n2 : Int)] V fun e w' => e = .returned (.int .u64 (pt : Int)) ∧ V = w') := Lib.hid (fun V => h2 ▸ first_any n2 n2 V (by omega))
  have HF4 : Hid (∀ V, Calls Try.prog 27 #[.int .i64 (n4 : Int)] V fun e w' => e = .returned (.int .u64 (al : Int)) ∧ V = w') := Lib.hid (fun V => h4 ▸ first_any n4 n4 V (by omega))
  have hp2 : pw n2 ≤ 4294967296 := by
    have := Nat.pow_le_pow_right (n := 2) (show 0 < 2 by omega) (show n2 ≤ 32 by omega)
    rw [pw_eq]; simpa using this
  have HW2 : Hid (IntKind.u32.wrap (pt : Int) = (pt : Int)) := Lib.hid (by rw [IntKind.wrap_u32]; have := pw_pos n2; omega)
  have HS4 : Hid (n4 ≤ 64) := Lib.hid (by omega)
  have HS2 : Hid (n2 ≤ 32) := Lib.hid (by omega)
  have HTT : Hid (tabL L = tabS L ∧ tm = n4) := Lib.hid (by
    have e : tabL L = tabS L := by unfold tabL; rw [HC1.out, if_pos rfl]
    exact ⟨e, by rw [HTM.out, e, tabS_len, hn4]⟩)
  clear hp2 hsm hn1 hn2 hn4 h1 h2 h4
  go_upto_region 4 with fail
  refine wp_region_rel (by kernel_rfl) [15] 12 [0, 1, 2, 3, 4, 5, 6, 7, 8, 9, 10, 11, 12, 13, 14] [20, 21, 22, 23, 24, 25, 26, 27, 28, 29, 30, 31, 32, 33, 6] #[true, true, true, true, true, true, true, true, true, true, true, true, true, true, true, false] 1 [(fun v _ => v = .pointer (some ⟨gl, 3, none⟩)), (fun v _ => v = .slice L.rt.a n4 L.rt.c), (fun v _ => v = .int .i64 (n4 : Int)), (fun v _ => v = .int .u64 (al : Int)), (fun v _ => v = .pointer (some ⟨gl, 1, none⟩)), (fun v _ => v = .slice L.po.a n2 L.po.c), (fun v _ => v = .int .i64 (n2 : Int)), (fun v _ => v = .int .u64 (pt : Int)), (fun v _ => v = .int .u32 (pt : Int)), (fun v _ => v = .pointer (some ⟨gl, 0, none⟩)), (fun v _ => v = .slice L.se.a n1 L.se.c), (fun v _ => v = .int .i64 (n1 : Int)), (fun v _ => v = .int .u64 (tr : Int)), (fun v _ => v = .agg #[.slice none 0 0, .slice none 0 0, .int .u64 (al : Int), .int .u32 (pt : Int), .int .u64 (tr : Int)]), (fun v V => ∃ g, v = .pointer (some ⟨g, 0, none⟩) ∧ V.heap[g]? = some (.cells #[.slice none 0 0, .slice none 0 0, .int .u64 0, .int .u32 0, .int .u64 0] 42) ∧ w1.heap.size ≤ g), (fun _ _ => True)] (by kernel_rfl) (by kernel_rfl) (by kernel_rfl) (by kernel_rfl) (by kernel_rfl) rfl (by kernel_rfl) rfl ?_ ?_ ?_
  · exact ⟨stays_is _, stays_is _, stays_is _, stays_is _, stays_is _, stays_is _, stays_is _, stays_is _, stays_is _, stays_is _, stays_is _, stays_is _, stays_is _, stays_is _, (fun v W W2 h hb => by obtain ⟨g, h1, h2, h3⟩ := h; exact ⟨g, h1, blk_keep hb h2, h3⟩), stays_true, trivial⟩
  · refine ⟨?_, ?_, ?_, ?_, ?_, ?_, ?_, ?_, ?_, ?_, ?_, ?_, ?_, ?_, ?_, trivial⟩
    · refine relOb_mk (o := ⟨some 20, _, _, _, _, _⟩) rfl (fun r V hc hf hg hs hb hd => ?_)
      have x1 : r (.tmp 1) = .pointer (some ⟨gl, 0, none⟩) := hs 1 (by kernel_rfl)
      clear hs hd hg
      go_simp
      exact ⟨Below.refl _ _, rfl⟩
    · refine relOb_mk (o := ⟨some 21, _, _, _, _, _⟩) rfl (fun r V hc hf hg hs hb hd => ?_)
      have h0 : r (.tmp 20) = .pointer (some ⟨gl, 3, none⟩) := hd 0 20 rfl (by kernel_rfl)
      clear hs hd hg
      have l := blk_cell (blk_keep hb HQL1.out) 3 _ rfl
      go_simp
      exact ⟨Below.refl _ _, rfl⟩
    · refine relOb_mk (o := ⟨some 22, _, _, _, _, _⟩) rfl (fun r V hc hf hg hs hb hd => ?_)
      have h1 : r (.tmp 21) = .slice L.rt.a n4 L.rt.c := hd 1 21 rfl (by kernel_rfl)
      clear hs hd hg
      go_simp
      exact ⟨Below.refl _ _, rfl⟩
    · refine relOb_mk (o := ⟨some 23, _, _, _, _, _⟩) rfl (fun r V hc hf hg hs hb hd => ?_)
      have h2 : r (.tmp 22) = .int .i64 (n4 : Int) := hd 2 22 rfl (by kernel_rfl)
      clear hs hd hg
      go_simp
      refine (HF4.out V).mono ?_
      rintro e w' ⟨rfl, rfl⟩
      exact ⟨_, rfl, Below.refl _ _, rfl⟩
    · refine relOb_mk (o := ⟨some 24, _, _, _, _, _⟩) rfl (fun r V hc hf hg hs hb hd => ?_)
      have x1 : r (.tmp 1) = .pointer (some ⟨gl, 0, none⟩) := hs 1 (by kernel_rfl)
      clear hs hd hg
      go_simp
      exact ⟨Below.refl _ _, rfl⟩
    · refine relOb_mk (o := ⟨some 25, _, _, _, _, _⟩) rfl (fun r V hc hf hg hs hb hd => ?_)
      have h4 : r (.tmp 24) = .pointer (some ⟨gl, 1, none⟩) := hd 4 24 rfl (by kernel_rfl)
      clear hs hd hg
      have l := blk_cell (blk_keep hb HQL1.out) 1 _ rfl
      go_simp
      exact ⟨Below.refl _ _, rfl⟩
    · refine relOb_mk (o := ⟨some 26, _, _, _, _, _⟩) rfl (fun r V hc hf hg hs hb hd => ?_)
      have h5 : r (.tmp 25) = .slice L.po.a n2 L.po.c := hd 5 25 rfl (by kernel_rfl)
      clear hs hd hg
      go_simp
      exact ⟨Below.refl _ _, rfl⟩
    · refine relOb_mk (o := ⟨some 27, _, _, _, _, _⟩) rfl (fun r V hc hf hg hs hb hd => ?_)
      have h6 : r (.tmp 26) = .int .i64 (n2 : Int) := hd 6 26 rfl (by kernel_rfl)
      clear hs hd hg
      go_simp
      refine (HF2.out V).mono ?_
      rintro e w' ⟨rfl, rfl⟩
      exact ⟨_, rfl, Below.refl _ _, rfl⟩
    · refine relOb_mk (o := ⟨some 28, _, _, _, _, _⟩) rfl (fun r V hc hf hg hs hb hd => ?_)
      have h7 : r (.tmp 27) = .int .u64 (pt : Int) := hd 7 27 rfl (by kernel_rfl)
      clear hs hd hg
      have hw := HW2.out
      go_simp
      exact ⟨Below.refl _ _, rfl⟩
    · refine relOb_mk (o := ⟨some 29, _, _, _, _, _⟩) rfl (fun r V hc hf hg hs hb hd => ?_)
      have x1 : r (.tmp 1) = .pointer (some ⟨gl, 0, none⟩) := hs 1 (by kernel_rfl)
      clear hs hd hg
      go_simp
      exact ⟨Below.refl _ _, rfl⟩
    · refine relOb_mk (o := ⟨some 30, _, _, _, _, _⟩) rfl (fun r V hc hf hg hs hb hd => ?_)
      have h9 : r (.tmp 29) = .pointer (some ⟨gl, 0, none⟩) := hd 9 29 rfl (by kernel_rfl)
      clear hs hd hg
      have l := blk_cell (blk_keep hb HQL1.out) 0 _ rfl
      go_simp
      exact ⟨Below.refl _ _, rfl⟩
    · refine relOb_mk (o := ⟨some 31, _, _, _, _, _⟩) rfl (fun r V hc hf hg hs hb hd => ?_)
      have h10 : r (.tmp 30) = .slice L.se.a n1 L.se.c := hd 10 30 rfl (by kernel_rfl)
      clear hs hd hg
      go_simp
      exact ⟨Below.refl _ _, rfl⟩
    · refine relOb_mk (o := ⟨some 32, _, _, _, _, _⟩) rfl (fun r V hc hf hg hs hb hd => ?_)
      have h11 : r (.tmp 31) = .int .i64 (n1 : Int) := hd 11 31 rfl (by kernel_rfl)
      clear hs hd hg
      go_simp
      refine (HF1.out V).mono ?_
      rintro e w' ⟨rfl, rfl⟩
      exact ⟨_, rfl, Below.refl _ _, rfl⟩
    · refine relOb_mk (o := ⟨some 33, _, _, _, _, _⟩) rfl (fun r V hc hf hg hs hb hd => ?_)
      have h3 : r (.tmp 23) = .int .u64 (al : Int) := hd 3 23 rfl (by kernel_rfl)
      have h8 : r (.tmp 28) = .int .u32 (pt : Int) := hd 8 28 rfl (by kernel_rfl)
      have h12 : r (.tmp 32) = .int .u64 (tr : Int) := hd 12 32 rfl (by kernel_rfl)
      clear hs hd hg
      go_simp
      exact ⟨Below.refl _ _, rfl⟩
    · refine relOb_mk (o := ⟨some 6, _, _, _, _, _⟩) rfl (fun r V hc hf hg hs hb hd => ?_)
      clear hs hd hg
      go_simp
      exact ⟨below1 V _, ⟨_, rfl, alloc1 V _ (Below.refl _ _), hb.size⟩⟩
  · intro a V hb hx
    have h0 : a.eval (.tmp 20) = .pointer (some ⟨gl, 3, none⟩) := hx 0 20 rfl rfl
    have h1 : a.eval (.tmp 21) = .slice L.rt.a n4 L.rt.c := hx 1 21 rfl rfl
    have h2 : a.eval (.tmp 22) = .int .i64 (n4 : Int) := hx 2 22 rfl rfl
    have h3 : a.eval (.tmp 23) = .int .u64 (al : Int) := hx 3 23 rfl rfl
    have h4 : a.eval (.tmp 24) = .pointer (some ⟨gl, 1, none⟩) := hx 4 24 rfl rfl
    have h5 : a.eval (.tmp 25) = .slice L.po.a n2 L.po.c := hx 5 25 rfl rfl
    have h6 : a.eval (.tmp 26) = .int .i64 (n2 : Int) := hx 6 26 rfl rfl
    have h7 : a.eval (.tmp 27) = .int .u64 (pt : Int) := hx 7 27 rfl rfl
    have h8 : a.eval (.tmp 28) = .int .u32 (pt : Int) := hx 8 28 rfl rfl
    have h9 : a.eval (.tmp 29) = .pointer (some ⟨gl, 0, none⟩) := hx 9 29 rfl rfl
    have h10 : a.eval (.tmp 30) = .slice L.se.a n1 L.se.c := hx 10 30 rfl rfl
    have h11 : a.eval (.tmp 31) = .int .i64 (n1 : Int) := hx 11 31 rfl rfl
    have h12 : a.eval (.tmp 32) = .int .u64 (tr : Int) := hx 12 32 rfl rfl
    have h13 : a.eval (.tmp 33) = .agg #[.slice none 0 0, .slice none 0 0, .int .u64 (al : Int), .int .u32 (pt : Int), .int .u64 (tr : Int)] := hx 13 33 rfl rfl
    have h14 : (fun v V => ∃ g, v = .pointer (some ⟨g, 0, none⟩) ∧ V.heap[g]? = some (.cells #[.slice none 0 0, .slice none 0 0, .int .u64 0, .int .u32 0, .int .u64 0] 42) ∧ w1.heap.size ≤ g) (a.eval (.tmp 6)) V := hx 14 6 rfl rfl
    obtain ⟨v6, e6⟩ : ∃ v, a.eval (.tmp 6) = v := ⟨_, rfl⟩
    rw [e6] at h14
    unfold fillAll
    simp only [List.foldl_cons, List.foldl_nil, h0, h1, h2, h3, h4, h5, h6, h7, h8, h9, h10, h11, h12, h13, e6, Act.put, List.setIfInBounds_toArray, List.set_cons_zero, List.set_cons_succ]
    clear h0 h1 h2 h3 h4 h5 h6 h7 h8 h9 h10 h11 h12 h13 e6 hx
    obtain ⟨g6, rfl, hq6, hg6⟩ := h14
    have HB4 := Lib.hid hb
    have HG6 := Lib.hid hg6
    have HQ6 := Lib.hid hq6
    clear hb hg6 hq6
    refine wpAny_ready (rs := [15]) (by kernel_rfl) (by simp) (AllReady.cons (o := ⟨none, _, _, _, _, _⟩) rfl (fun K hK => ?_) AllReady.nil)
    have c0 := blk_cell HQ6.out 0 _ rfl
    have f0 := blk_free HQ6.out 0
    have c1 := blk_cell HQ6.out 1 _ rfl
    have f1 := blk_free HQ6.out 1
    have c2 := blk_cell HQ6.out 2 _ rfl
    have f2 := blk_free HQ6.out 2
    have c3 := blk_cell HQ6.out 3 _ rfl
    have f3 := blk_free HQ6.out 3
    have c4 := blk_cell HQ6.out 4 _ rfl
    have f4 := blk_free HQ6.out 4
    have hl := blk_lt HQ6.out
    go_simp
    clear c0 f0 c1 f1 c2 f2 c3 f3 c4 f4 hl
    refine name_K ?_
    intro V6 hV6
    have ho : Only g6 V V6 := by rw [hV6]; exact (((((Only.refl g6 V).setCell rfl _).setCell rfl _).setCell rfl _).setCell rfl _).setCell rfl _
    have HQ66 : Hid (V6.heap[g6]? = some (.cells #[.slice none 0 0, .slice none 0 0, .int .u64 (al : Int), .int .u32 (pt : Int), .int .u64 (tr : Int)] 42)) := Lib.hid (by rw [hV6]; exact blk_set (blk_set (blk_set (blk_set (blk_set HQ6.out 0 _) 1 _) 2 _) 3 _) 4 _)
    have HB6 : Hid (Below w1.heap.size w1 V6) := Lib.hid (Only.below HB4.out HG6.out HB4.out.size ho)
    clear hV6 ho HQ6 HB4
    refine hK _ _ ?_
    clear hK K
    refine wpAny_done (by kernel_rfl) ?_ _
    have l3 := blk_cell (blk_keep HB6.out HQL1.out) 3 _ rfl
    go_upto_region 6 with fail
    clear l3
    go_loopg [7] n4 (fun g v wr => ∃ (i : Nat) (vr : Value), i + g = n4 ∧ v = .int .i64 (i : Int) ∧ wr.heap[g6]? = some (.cells #[vr, .slice none 0 0, .int .u64 (al : Int), .int .u32 (pt : Int), .int .u64 (tr : Int)] 42) ∧ wr.ownsRow (g6 + 1) 50 6 vr ((mksS L).take i).length (((mksS L).take i).flatMap mkC) ∧ Below w1.heap.size w1 wr)
    case atStart => exact ⟨0, .slice none 0 0, by omega, rfl, HQ66.out, by rw [List.take_zero]; exact World.ownsRow_nil _ _ _ _, HB6.out⟩
    case round =>
      obtain ⟨i, vr, hi, rfl, hq, ho, hbw⟩ := hrel
      have HI := Lib.hid hi
      have HQM := Lib.hid hq
      have HO := Lib.hid ho
      have HB := Lib.hid hbw
      have l3 := blk_cell (blk_keep HB.out HQL1.out) 3 _ rfl
      clear hi hq ho hbw HQ66 HB6
      by_cases hlt : i < n4
      · skip
        have d1 : (0 : Int) ≤ i := by omega
        have d2 : (i : Int) < n4 := by omega
        have e1 := k_succ hlt (Nat.le_trans HS4.out (by decide))
        have HLT := Lib.hid hlt
        rcases HLW.out.rt.row with hnil | ⟨xb, off, hxb, hc0⟩
        · have := HN4.out; rw [hnil] at this; simp at this; omega
        have hc := fun i c hi j v hv => cell_later (below_on HB1.out HB.out) (hc0 i c hi j v hv)
        obtain ⟨x, hyx⟩ : ∃ y, L.rt.l[i]? = some y := ⟨_, List.getElem?_eq_getElem (by rw [HN4.out]; exact hlt)⟩
        have z0 := hc i _ hyx 0 _ rfl
        have z1 := hc i _ hyx 1 _ rfl
        have z2 := hc i _ hyx 2 _ rfl
        have z3 := hc i _ hyx 3 _ rfl
        have z4 := hc i _ hyx 4 _ rfl
        have z5 := hc i _ hyx 5 _ rfl
        rw [Nat.add_zero] at z0
        obtain ⟨p1, hp1⟩ : ∃ n, x.pa.l.length = n := ⟨_, rfl⟩
        obtain ⟨p2, hp2⟩ : ∃ n, x.po.l.length = n := ⟨_, rfl⟩
        obtain ⟨p3, hp3⟩ : ∃ n, x.ov.l.length = n := ⟨_, rfl⟩
        obtain ⟨p4, hp4⟩ : ∃ n, x.fl.l.length = n := ⟨_, rfl⟩
        rw [slv hp1] at z2
        rw [slv hp2] at z3
        rw [slv hp3] at z4
        rw [slv hp4] at z5
        have HZX := Lib.hid (And.intro z0 (And.intro z1 (And.intro z2 (And.intro z3 (And.intro z4 z5)))))
        clear z0 z1 z2 z3 z4 z5
        obtain ⟨X, hX⟩ : ∃ x, L.rt.a = x := ⟨_, rfl⟩
        have HXX := Lib.hid hX
        rw [hX] at hxb l3 ⊢
        subst hxb
        have hxm := List.mem_of_getElem? hyx
        have HYX := Lib.hid hyx
        have HXM := Lib.hid hxm
        have HPP := Lib.hid (And.intro hp1 (And.intro hp2 (And.intro hp3 hp4)))
        obtain ⟨z0, z1, z2, z3, z4, z5⟩ := HZX.out
        clear hc hc0 hyx hxm hp1 hp2 hp3 hp4 hlt hX
        go_upto_region 9 with fail
        have hbn := below1 wr (.cells #[.string x.nm, .int .i64 x.sg, .slice x.pa.a p1 x.pa.c, .slice x.po.a p2 x.po.c, .slice x.ov.a p3 x.ov.c, .slice x.fl.a p4 x.fl.c] 61)
        have hqn := alloc1 wr (.cells #[.string x.nm, .int .i64 x.sg, .slice x.pa.a p1 x.pa.c, .slice x.po.a p2 x.po.c, .slice x.ov.a p3 x.ov.c, .slice x.fl.a p4 x.fl.c] 61) (Below.refl _ _)
        obtain ⟨V8, hV8⟩ : ∃ V, V = wr.alloc (.cells #[.string x.nm, .int .i64 x.sg, .slice x.pa.a p1 x.pa.c, .slice x.po.a p2 x.po.c, .slice x.ov.a p3 x.ov.c, .slice x.fl.a p4 x.fl.c] 61) := ⟨_, rfl⟩
        rw [← hV8] at hbn hqn ⊢
        obtain ⟨g8, hg8⟩ : ∃ g, g = wr.heap.size := ⟨_, rfl⟩
        rw [← hg8] at hqn ⊢
        have HB8 := Lib.hid (below_on HB.out hbn)
        have HQ8 := Lib.hid hqn
        have HO8 := Lib.hid (own_below hbn HO.out)
        have HM8 := Lib.hid (blk_keep hbn HQM.out)
        have HG8 : Hid (wr.heap.size ≤ g8 ∧ g8 < V8.heap.size) := Lib.hid (by have := blk_lt hqn; omega)
        clear hbn hqn hV8 hg8 z0 z1 z2 z3 z4 z5 l3
        obtain ⟨q0, qs, hpa⟩ : ∃ a l, x.pa.l = a :: l := by
          cases h : x.pa.l with
          | nil => exact absurd h (formed_pa (formed_of HC1.out x HXM.out))
          | cons a l => exact ⟨a, l, rfl⟩
        have ok := mayS_rt HM.out x HXM.out
        obtain ⟨sk, hsk⟩ : ∃ k : Nat, x.sg = k := ⟨x.sg.toNat, by have := ok.s0; omega⟩
        have hsl : sk < L.sg.l.length := by have := ok.s1; omega
        obtain ⟨sp, hsp⟩ : ∃ p, L.sg.l[sk]? = some p := ⟨_, List.getElem?_eq_getElem hsl⟩
        have hxw : RtAt V8 x := ((HLW.out.rn x HXM.out).below HB1.out).below HB8.out
        have hwb : Below w.heap.size w V8 := below_on HB1.out HB8.out
        have HF : Hid (firstS x = withI 0 q0 ∧ aheadS L x = withI 0 sp.2) := Lib.hid ⟨by unfold firstS; rw [hpa]; rfl, by unfold aheadS; rw [hsk, secOf_at hsp]⟩
        have HSK := Lib.hid hsk
        have HSL : Hid (sk < n3) := Lib.hid (by rw [← HN3.out]; exact hsl)
        obtain ⟨PA, hPA⟩ : ∃ a, x.pa.a = a := ⟨_, rfl⟩
        have hr1 := hxw.pa.row
        rw [hPA, hpa] at hr1
        rcases hr1 with hnil | ⟨pb, po, hpb, hpc⟩
        · cases hnil
        subst hpb
        have HP0 : Hid (V8.cell? ⟨pb, po, none⟩ = some (.int .i64 q0)) := Lib.hid (by have := hpc 0 q0 rfl 0 _ rfl; simpa using this)
        have HPL : Hid (0 < p1) := Lib.hid (by rw [← HPP.out.1, hpa]; simp)
        obtain ⟨SA, hSA⟩ : ∃ a, L.sg.a = a := ⟨_, rfl⟩
        have hr2 := HLW.out.sg.row
        rw [hSA] at hr2
        rcases hr2 with hnil | ⟨sb, so, hsb, hsc⟩
        · rw [hnil] at hsp; cases hsp
        subst hsb
        have HS1 : Hid (V8.cell? ⟨sb, so + sk * 2 + 1, none⟩ = some (.int .i64 sp.2)) := Lib.hid (cell_later hwb (hsc sk sp hsp 1 _ rfl))
        have HQG : Hid (V8.cell? ⟨gl, 2, none⟩ = some (.slice (some ⟨sb, so, none⟩) n3 L.sg.c)) := Lib.hid (by rw [← hSA]; exact blk_cell (blk_keep HB8.out HQL1.out) 2 _ rfl)
        have HQP : Hid (V8.cell? ⟨g8, 2, none⟩ = some (.slice (some ⟨pb, po, none⟩) p1 x.pa.c)) := Lib.hid (by rw [← hPA]; exact blk_cell HQ8.out 2 _ rfl)
        have HQS : Hid (V8.cell? ⟨g8, 1, none⟩ = some (.int .i64 (sk : Int))) := Lib.hid (by rw [← hsk]; exact blk_cell HQ8.out 1 _ rfl)
        have hrt := hT_row (n4 := n4) HT.out HTT.out.1
        obtain ⟨tb, tf, htb, htc⟩ := hrt i HLT.out
        have htb := htb HN4.out
        obtain ⟨TA, hTA⟩ : ∃ a, ta = a := ⟨_, rfl⟩
        have HTA := Lib.hid hTA
        rw [hTA] at htb ⊢
        subst htb
        have HTC : Hid (V8.cell? ⟨tb, tf + i, none⟩ = some (.int .u64 (rowS L i : Int))) := Lib.hid (cell_later HB8.out (htc (by rw [HN4.out])))
        have HPCc : Hid (1 ≤ x.pa.c) := Lib.hid (by have := (HLW.out.rn x HXM.out).pa.len; rw [HPP.out.1] at this; have := HPL.out; omega)
        have HTRK : Hid (∀ W, Below V8.heap.size V8 W → Calls Try.prog 30 #[.agg #[.string x.nm, .int .i64 x.sg, .slice x.pa.a p1 x.pa.c, .slice x.po.a p2 x.po.c, .slice x.ov.a p3 x.ov.c, .slice x.fl.a p4 x.fl.c]] W fun e w' => ∃ a n c, e = .returned (.slice a n c) ∧ n = x.tr.length ∧ SlAt 1 intC w' ⟨a, c, x.tr⟩ ∧ Below W.heap.size W w') := Lib.hid (fun W hW => by
          have h := rtrack_is x W (hxw.below hW) (by have := ok.pa; have := ok.ov; omega)
          rw [slv HPP.out.1, slv HPP.out.2.1, slv HPP.out.2.2.1, slv HPP.out.2.2.2] at h
          refine h.mono (fun _ _ ⟨a, n, c, h1, h2, h3, h4⟩ => ⟨a, n, c, h1, ?_, by unfold Rt.tr; exact h3, h4⟩)
          rw [h2]; unfold Rt.tr; rw [List.length_append])
        have HNDS : Hid (∀ W, Below V8.heap.size V8 W → Calls Try.prog 28 #[.agg #[.string x.nm, .int .i64 x.sg, .slice x.pa.a p1 x.pa.c, .slice x.po.a p2 x.po.c, .slice x.ov.a p3 x.ov.c, .slice x.fl.a p4 x.fl.c]] W fun e w' => ∃ a n c, e = .returned (.slice a n c) ∧ n = x.nd.length ∧ SlAt 2 ndC w' ⟨a, c, x.nd⟩ ∧ Below W.heap.size W w') := Lib.hid (fun W hW => by
          have h := rneeds_is x W (hxw.below hW) (by have := ok.po; have := ok.fl; omega)
          rw [slv HPP.out.1, slv HPP.out.2.1, slv HPP.out.2.2.1, slv HPP.out.2.2.2] at h
          refine h.mono (fun _ _ ⟨a, n, c, h1, h2, h3, h4⟩ => ⟨a, n, c, h1, ?_, by unfold Rt.nd; exact h3, h4⟩)
          rw [h2]; unfold Rt.nd; rw [List.length_append])
        have HNB := Lib.hid (k_nd HM.out x HXM.out)
        have HNL : Hid (x.nd.length ≤ 100000) := Lib.hid (by have := ok.po; have := ok.fl; unfold Rt.nd; rw [List.length_append]; omega)
        have HR1 : Hid (RowAt 1 intC V8 (some ⟨pb, po, none⟩) [q0]) := Lib.hid (.inr ⟨pb, po, rfl, fun m c hm j v hv => by
          cases m with
          | zero =>
            obtain rfl : q0 = c := by simpa using hm
            have := hpc 0 q0 rfl j v hv
            exact this
          | succ m => simp at hm⟩)
        have d3 : (i : Int) < tm := by rw [HTT.out.2]; exact d2
        clear hpa ok hsk hsl hsp hxw hwb hPA hpc hSA hsc hrt htc hTA
        have l0 := blk_cell HQ8.out 0 _ rfl
        have l1 := blk_cell HQ8.out 1 _ rfl
        have l2 := blk_cell HQ8.out 2 _ rfl
        have l3 := blk_cell HQ8.out 3 _ rfl
        have l4 := blk_cell HQ8.out 4 _ rfl
        have l5 := blk_cell HQ8.out 5 _ rfl
        go_wp2_with fail
        refine (HNDS.out _ (Below.refl _ _)).mono ?_
        rintro e wN ⟨na, nn, nc, rfl, hnn, hns, hb⟩
        have HB9 := Lib.hid hb
        have HMN := Lib.hid (blk_keep hb HM8.out)
        have HON := Lib.hid (own_below hb HO8.out)
        have HSI : Hid (∀ (s : Bool) (V : World), Below wN.heap.size wN V → Calls Try.prog 31 #[.slice na nn nc, .bool s] V fun e w' => e = .returned (.int .u32 (sideS x.nd s : Int)) ∧ Below V.heap.size V w') := Lib.hid (fun s V hV => side_is _ x.nd s na nn nc rfl HNB.out V (hns.row.below hV) hnn.symm (by rw [hnn]; exact HNL.out))
        have HQ8n := Lib.hid (blk_keep hb HQ8.out)
        have HR1n := Lib.hid (HR1.out.below hb)
        have HQPn := Lib.hid (cell_later hb HQP.out)
        have HQGn := Lib.hid (cell_later hb HQG.out)
        have HQSn := Lib.hid (cell_later hb HQS.out)
        have HS1n := Lib.hid (cell_later hb HS1.out)
        have HTCn := Lib.hid (cell_later hb HTC.out)
        have HTRKn : Hid (∀ W, Below wN.heap.size wN W → _) := Lib.hid (fun W hW => HTRK.out W (below_on hb hW))
        clear l0 l1 l2 l3 l4 l5 hb hnn hns HQ8 HR1 HQP HQG HQS HS1 HTC HTRK
        go_upto_region 10 with fail
        refine wp_region_rel (by kernel_rfl) [28, 29, 30] 16 [0, 1, 2, 3, 4, 5, 6, 7, 8, 9, 10, 11, 12, 13, 14, 15, 16, 17, 18, 19, 20, 21, 22, 23, 24, 25, 26, 27] [48, 49, 50, 51, 52, 53, 54, 55, 56, 57, 58, 59, 60, 61, 62, 63, 64, 65, 66, 67, 68, 69, 70, 71, 72, 73, 74, 75] #[true, true, true, true, true, true, true, true, true, true, true, true, true, true, true, true, true, true, true, true, true, true, true, true, true, true, true, true, false, false, false] 3 [(fun v _ => v = .pointer (some ⟨g6, 0, none⟩)), (fun v _ => v = vr), (fun v _ => v = .agg #[.string x.nm, .int .i64 x.sg, .slice x.pa.a p1 x.pa.c, .slice x.po.a p2 x.po.c, .slice x.ov.a p3 x.ov.c, .slice x.fl.a p4 x.fl.c]), (fun v V => ∃ a n c, v = .slice a n c ∧ n = x.tr.length ∧ SlAt 1 intC V ⟨a, c, x.tr⟩), (fun v _ => v = .int .u64 (ofN x.tr : Int)), (fun v _ => v = .pointer (some ⟨g8, 2, none⟩)), (fun v _ => v = .slice (some ⟨pb, po, none⟩) p1 x.pa.c), (fun v _ => v = .slice (some ⟨pb, po, none⟩) 1 x.pa.c), (fun v _ => v = .int .u64 ((withI 0 q0 : Nat) : Int)), (fun v _ => v = .pointer (some ⟨gl, 2, none⟩)), (fun v _ => v = .slice (some ⟨sb, so, none⟩) n3 L.sg.c), (fun v _ => v = .pointer (some ⟨g8, 1, none⟩)), (fun v _ => v = .int .i64 (sk : Int)), (fun v _ => v = .pointer (some ⟨sb, so + sk * 2, none⟩)), (fun v _ => v = .pointer (some ⟨sb, so + sk * 2 + 1, none⟩)), (fun v _ => v = .int .i64 sp.2), (fun v V => ∃ g, v = .slice (some ⟨g, 0, none⟩) 1 1 ∧ V.heap[g]? = some (.cells #[.int .i64 sp.2] 3)), (fun v _ => v = .int .u64 ((withI 0 sp.2 : Nat) : Int)), (fun v _ => v = .slice na nn nc), (fun v _ => v = .int .u32 (sideS x.nd false : Int)), (fun v _ => v = .slice na nn nc), (fun v _ => v = .int .u32 (sideS x.nd true : Int)), (fun v _ => v = .slice (some ⟨tb, tf, none⟩) tm tc), (fun v _ => v = .int .i64 (i : Int)), (fun v _ => v = .pointer (some ⟨tb, tf + i, none⟩)), (fun v _ => v = .int .u64 (rowS L i : Int)), (fun v _ => v = .agg #[.int .u64 (ofN x.tr : Int), .int .u64 ((withI 0 q0 : Nat) : Int), .int .u64 ((withI 0 sp.2 : Nat) : Int), .int .u32 (sideS x.nd false : Int), .int .u32 (sideS x.nd true : Int), .int .u64 (rowS L i : Int)]), (fun v V => ∃ g, v = .slice (some ⟨g, 0, none⟩) 1 1 ∧ V.heap[g]? = some (.cells #[.int .u64 (ofN x.tr : Int), .int .u64 ((withI 0 q0 : Nat) : Int), .int .u64 ((withI 0 sp.2 : Nat) : Int), .int .u32 (sideS x.nd false : Int), .int .u32 (sideS x.nd true : Int), .int .u64 (rowS L i : Int)] 50)), (fun _ _ => True), (fun _ _ => True), (fun _ _ => True)] (by kernel_rfl) (by kernel_rfl) (by kernel_rfl) (by kernel_rfl) (by kernel_rfl) rfl (by kernel_rfl) rfl ?_ ?_ ?_
        · exact ⟨stays_is _, stays_is _, stays_is _, (fun v W W2 h hb => by obtain ⟨a, n, c, h1, h2, h3⟩ := h; exact ⟨a, n, c, h1, h2, h3.below hb⟩), stays_is _, stays_is _, stays_is _, stays_is _, stays_is _, stays_is _, stays_is _, stays_is _, stays_is _, stays_is _, stays_is _, stays_is _, (fun v W W2 h hb => by obtain ⟨g, h1, h2⟩ := h; exact ⟨g, h1, blk_keep hb h2⟩), stays_is _, stays_is _, stays_is _, stays_is _, stays_is _, stays_is _, stays_is _, stays_is _, stays_is _, stays_is _, (fun v W W2 h hb => by obtain ⟨g, h1, h2⟩ := h; exact ⟨g, h1, blk_keep hb h2⟩), stays_true, stays_true, stays_true, trivial⟩
        · refine ⟨?_, ?_, ?_, ?_, ?_, ?_, ?_, ?_, ?_, ?_, ?_, ?_, ?_, ?_, ?_, ?_, ?_, ?_, ?_, ?_, ?_, ?_, ?_, ?_, ?_, ?_, ?_, ?_, trivial⟩
          · refine relOb_mk (o := ⟨some 48, _, _, _, _, _⟩) rfl (fun r V hc hf hg hs hb hd => ?_)
            have x6 : r (.tmp 6) = .pointer (some ⟨g6, 0, none⟩) := hs 6 (by kernel_rfl)
            clear hs hd hg
            go_simp
            exact ⟨Below.refl _ _, rfl⟩
          · refine relOb_mk (o := ⟨some 49, _, _, _, _, _⟩) rfl (fun r V hc hf hg hs hb hd => ?_)
            have h0 : r (.tmp 48) = .pointer (some ⟨g6, 0, none⟩) := hd 0 48 rfl (by kernel_rfl)
            clear hs hd hg
            have l := blk_cell (blk_keep hb HMN.out) 0 _ rfl
            go_simp
            exact ⟨Below.refl _ _, rfl⟩
          · refine relOb_mk (o := ⟨some 50, _, _, _, _, _⟩) rfl (fun r V hc hf hg hs hb hd => ?_)
            have x8 : r (.tmp 8) = .pointer (some ⟨g8, 0, none⟩) := hs 8 (by kernel_rfl)
            clear hs hd hg
            have l0 := blk_cell (blk_keep hb HQ8n.out) 0 _ rfl
            have l1 := blk_cell (blk_keep hb HQ8n.out) 1 _ rfl
            have l2 := blk_cell (blk_keep hb HQ8n.out) 2 _ rfl
            have l3 := blk_cell (blk_keep hb HQ8n.out) 3 _ rfl
            have l4 := blk_cell (blk_keep hb HQ8n.out) 4 _ rfl
            have l5 := blk_cell (blk_keep hb HQ8n.out) 5 _ rfl
            go_simp
            exact ⟨Below.refl _ _, rfl⟩
          · refine relOb_mk (o := ⟨some 51, _, _, _, _, _⟩) rfl (fun r V hc hf hg hs hb hd => ?_)
            have h2 : r (.tmp 50) = .agg #[.string x.nm, .int .i64 x.sg, .slice x.pa.a p1 x.pa.c, .slice x.po.a p2 x.po.c, .slice x.ov.a p3 x.ov.c, .slice x.fl.a p4 x.fl.c] := hd 2 50 rfl (by kernel_rfl)
            clear hs hd hg
            go_simp
            refine (HTRKn.out V hb).mono ?_
            rintro e w' ⟨a, n, c, rfl, h1, h2, h3⟩
            exact ⟨_, rfl, h3, a, n, c, rfl, h1, h2⟩
          · refine relOb_mk (o := ⟨some 52, _, _, _, _, _⟩) rfl (fun r V hc hf hg hs hb hd => ?_)
            have h3 : (fun v V => ∃ a n c, v = .slice a n c ∧ n = x.tr.length ∧ SlAt 1 intC V ⟨a, c, x.tr⟩) (r (.tmp 51)) V := hd 3 51 rfl (by kernel_rfl)
            obtain ⟨ra, rn, rc, hv, hn, hsl⟩ := h3
            have HRN := Lib.hid hn
            have HRS := Lib.hid hsl
            clear hn hsl
            clear hs hd hg
            go_simp
            refine (rof_any ra rn rc x.tr V HRN.out.symm (by rw [HRN.out]; exact Nat.le_trans HRS.out.len HRS.out.cap) HRS.out.row).mono ?_
            rintro e w' ⟨rfl, rfl⟩
            exact ⟨_, rfl, Below.refl _ _, rfl⟩
          · refine relOb_mk (o := ⟨some 53, _, _, _, _, _⟩) rfl (fun r V hc hf hg hs hb hd => ?_)
            have x8 : r (.tmp 8) = .pointer (some ⟨g8, 0, none⟩) := hs 8 (by kernel_rfl)
            clear hs hd hg
            go_simp
            exact ⟨Below.refl _ _, rfl⟩
          · refine relOb_mk (o := ⟨some 54, _, _, _, _, _⟩) rfl (fun r V hc hf hg hs hb hd => ?_)
            have h5 : r (.tmp 53) = .pointer (some ⟨g8, 2, none⟩) := hd 5 53 rfl (by kernel_rfl)
            clear hs hd hg
            have l := cell_later hb HQPn.out
            go_simp
            exact ⟨Below.refl _ _, rfl⟩
          · refine relOb_mk (o := ⟨some 55, _, _, _, _, _⟩) rfl (fun r V hc hf hg hs hb hd => ?_)
            have h6 : r (.tmp 54) = .slice (some ⟨pb, po, none⟩) p1 x.pa.c := hd 6 54 rfl (by kernel_rfl)
            clear hs hd hg
            have hl := HPL.out
            have hc1 : (1 : Int) ≤ x.pa.c := by have := HPCc.out; omega
            go_simp
            exact ⟨Below.refl _ _, rfl⟩
          · refine relOb_mk (o := ⟨some 56, _, _, _, _, _⟩) rfl (fun r V hc hf hg hs hb hd => ?_)
            have h7 : r (.tmp 55) = .slice (some ⟨pb, po, none⟩) 1 x.pa.c := hd 7 55 rfl (by kernel_rfl)
            clear hs hd hg
            go_simp
            refine (rof_any (some ⟨pb, po, none⟩) 1 x.pa.c [q0] V rfl (by decide) (HR1n.out.below hb)).mono ?_
            rintro e w' ⟨rfl, rfl⟩
            exact ⟨_, rfl, Below.refl _ _, by rw [of_one]⟩
          · refine relOb_mk (o := ⟨some 57, _, _, _, _, _⟩) rfl (fun r V hc hf hg hs hb hd => ?_)
            have x1 : r (.tmp 1) = .pointer (some ⟨gl, 0, none⟩) := hs 1 (by kernel_rfl)
            clear hs hd hg
            go_simp
            exact ⟨Below.refl _ _, rfl⟩
          · refine relOb_mk (o := ⟨some 58, _, _, _, _, _⟩) rfl (fun r V hc hf hg hs hb hd => ?_)
            have h9 : r (.tmp 57) = .pointer (some ⟨gl, 2, none⟩) := hd 9 57 rfl (by kernel_rfl)
            clear hs hd hg
            have l := cell_later hb HQGn.out
            go_simp
            exact ⟨Below.refl _ _, rfl⟩
          · refine relOb_mk (o := ⟨some 59, _, _, _, _, _⟩) rfl (fun r V hc hf hg hs hb hd => ?_)
            have x8 : r (.tmp 8) = .pointer (some ⟨g8, 0, none⟩) := hs 8 (by kernel_rfl)
            clear hs hd hg
            go_simp
            exact ⟨Below.refl _ _, rfl⟩
          · refine relOb_mk (o := ⟨some 60, _, _, _, _, _⟩) rfl (fun r V hc hf hg hs hb hd => ?_)
            have h11 : r (.tmp 59) = .pointer (some ⟨g8, 1, none⟩) := hd 11 59 rfl (by kernel_rfl)
            clear hs hd hg
            have l := cell_later hb HQSn.out
            go_simp
            exact ⟨Below.refl _ _, rfl⟩
          · refine relOb_mk (o := ⟨some 61, _, _, _, _, _⟩) rfl (fun r V hc hf hg hs hb hd => ?_)
            have h10 : r (.tmp 58) = .slice (some ⟨sb, so, none⟩) n3 L.sg.c := hd 10 58 rfl (by kernel_rfl)
            have h12 : r (.tmp 60) = .int .i64 (sk : Int) := hd 12 60 rfl (by kernel_rfl)
            clear hs hd hg
            have hl : (sk : Int) < n3 := by have := HSL.out; omega
            have hl0 : (0 : Int) ≤ sk := by omega
            go_simp
            exact ⟨Below.refl _ _, rfl⟩
          · refine relOb_mk (o := ⟨some 62, _, _, _, _, _⟩) rfl (fun r V hc hf hg hs hb hd => ?_)
            have h13 : r (.tmp 61) = .pointer (some ⟨sb, so + sk * 2, none⟩) := hd 13 61 rfl (by kernel_rfl)
            clear hs hd hg
            go_simp
            exact ⟨Below.refl _ _, rfl⟩
          · refine relOb_mk (o := ⟨some 63, _, _, _, _, _⟩) rfl (fun r V hc hf hg hs hb hd => ?_)
            have h14 : r (.tmp 62) = .pointer (some ⟨sb, so + sk * 2 + 1, none⟩) := hd 14 62 rfl (by kernel_rfl)
            clear hs hd hg
            have l := cell_later hb HS1n.out
            go_simp
            exact ⟨Below.refl _ _, rfl⟩
          · refine relOb_mk (o := ⟨some 64, _, _, _, _, _⟩) rfl (fun r V hc hf hg hs hb hd => ?_)
            have h15 : r (.tmp 63) = .int .i64 sp.2 := hd 15 63 rfl (by kernel_rfl)
            clear hs hd hg
            go_simp
            exact ⟨below1 V _, ⟨_, rfl, alloc1 V _ (Below.refl _ _)⟩⟩
          · refine relOb_mk (o := ⟨some 65, _, _, _, _, _⟩) rfl (fun r V hc hf hg hs hb hd => ?_)
            have h16 : (fun v V => ∃ g, v = .slice (some ⟨g, 0, none⟩) 1 1 ∧ V.heap[g]? = some (.cells #[.int .i64 sp.2] 3)) (r (.tmp 64)) V := hd 16 64 rfl (by kernel_rfl)
            obtain ⟨gq, hv, hqq⟩ := h16
            clear hs hd hg
            go_simp
            refine (rof_any (some ⟨gq, 0, none⟩) 1 1 [sp.2] V rfl (by decide) (row_blk int_len hqq rfl)).mono ?_
            rintro e w' ⟨rfl, rfl⟩
            exact ⟨_, rfl, Below.refl _ _, by rw [of_one]⟩
          · refine relOb_mk (o := ⟨some 66, _, _, _, _, _⟩) rfl (fun r V hc hf hg hs hb hd => ?_)
            have x9 : r (.tmp 9) = .slice na nn nc := hs 9 (by kernel_rfl)
            clear hs hd hg
            go_simp
            exact ⟨Below.refl _ _, rfl⟩
          · refine relOb_mk (o := ⟨some 67, _, _, _, _, _⟩) rfl (fun r V hc hf hg hs hb hd => ?_)
            have h18 : r (.tmp 66) = .slice na nn nc := hd 18 66 rfl (by kernel_rfl)
            clear hs hd hg
            go_simp
            refine (HSI.out false V hb).mono ?_
            rintro e w' ⟨rfl, h⟩
            exact ⟨_, rfl, h, rfl⟩
          · refine relOb_mk (o := ⟨some 68, _, _, _, _, _⟩) rfl (fun r V hc hf hg hs hb hd => ?_)
            have x9 : r (.tmp 9) = .slice na nn nc := hs 9 (by kernel_rfl)
            clear hs hd hg
            go_simp
            exact ⟨Below.refl _ _, rfl⟩
          · refine relOb_mk (o := ⟨some 69, _, _, _, _, _⟩) rfl (fun r V hc hf hg hs hb hd => ?_)
            have h20 : r (.tmp 68) = .slice na nn nc := hd 20 68 rfl (by kernel_rfl)
            clear hs hd hg
            go_simp
            refine (HSI.out true V hb).mono ?_
            rintro e w' ⟨rfl, h⟩
            exact ⟨_, rfl, h, rfl⟩
          · refine relOb_mk (o := ⟨some 70, _, _, _, _, _⟩) rfl (fun r V hc hf hg hs hb hd => ?_)
            have x4 : r (.tmp 4) = .slice (some ⟨tb, tf, none⟩) tm tc := hs 4 (by kernel_rfl)
            clear hs hd hg
            go_simp
            exact ⟨Below.refl _ _, rfl⟩
          · refine relOb_mk (o := ⟨some 71, _, _, _, _, _⟩) rfl (fun r V hc hf hg hs hb hd => ?_)
            have x7 : r (.tmp 7) = .int .i64 (i : Int) := hs 7 (by kernel_rfl)
            clear hs hd hg
            go_simp
            exact ⟨Below.refl _ _, rfl⟩
          · refine relOb_mk (o := ⟨some 72, _, _, _, _, _⟩) rfl (fun r V hc hf hg hs hb hd => ?_)
            have h22 : r (.tmp 70) = .slice (some ⟨tb, tf, none⟩) tm tc := hd 22 70 rfl (by kernel_rfl)
            have h23 : r (.tmp 71) = .int .i64 (i : Int) := hd 23 71 rfl (by kernel_rfl)
            clear hs hd hg
            go_simp
            exact ⟨Below.refl _ _, rfl⟩
          · refine relOb_mk (o := ⟨some 73, _, _, _, _, _⟩) rfl (fun r V hc hf hg hs hb hd => ?_)
            have h24 : r (.tmp 72) = .pointer (some ⟨tb, tf + i, none⟩) := hd 24 72 rfl (by kernel_rfl)
            clear hs hd hg
            have l := cell_later hb HTCn.out
            go_simp
            exact ⟨Below.refl _ _, rfl⟩
          · refine relOb_mk (o := ⟨some 74, _, _, _, _, _⟩) rfl (fun r V hc hf hg hs hb hd => ?_)
            have h4 : r (.tmp 52) = .int .u64 (ofN x.tr : Int) := hd 4 52 rfl (by kernel_rfl)
            have h8 : r (.tmp 56) = .int .u64 ((withI 0 q0 : Nat) : Int) := hd 8 56 rfl (by kernel_rfl)
            have h17 : r (.tmp 65) = .int .u64 ((withI 0 sp.2 : Nat) : Int) := hd 17 65 rfl (by kernel_rfl)
            have h19 : r (.tmp 67) = .int .u32 (sideS x.nd false : Int) := hd 19 67 rfl (by kernel_rfl)
            have h21 : r (.tmp 69) = .int .u32 (sideS x.nd true : Int) := hd 21 69 rfl (by kernel_rfl)
            have h25 : r (.tmp 73) = .int .u64 (rowS L i : Int) := hd 25 73 rfl (by kernel_rfl)
            clear hs hd hg
            go_simp
            exact ⟨Below.refl _ _, rfl⟩
          · refine relOb_mk (o := ⟨some 75, _, _, _, _, _⟩) rfl (fun r V hc hf hg hs hb hd => ?_)
            have h26 : r (.tmp 74) = .agg #[.int .u64 (ofN x.tr : Int), .int .u64 ((withI 0 q0 : Nat) : Int), .int .u64 ((withI 0 sp.2 : Nat) : Int), .int .u32 (sideS x.nd false : Int), .int .u32 (sideS x.nd true : Int), .int .u64 (rowS L i : Int)] := hd 26 74 rfl (by kernel_rfl)
            clear hs hd hg
            go_simp
            exact ⟨below1 V _, ⟨_, rfl, alloc1 V _ (Below.refl _ _)⟩⟩
        · intro a V hb hx
          have h0 : a.eval (.tmp 48) = .pointer (some ⟨g6, 0, none⟩) := hx 0 48 rfl rfl
          have h1 : a.eval (.tmp 49) = vr := hx 1 49 rfl rfl
          have h2 : a.eval (.tmp 50) = .agg #[.string x.nm, .int .i64 x.sg, .slice x.pa.a p1 x.pa.c, .slice x.po.a p2 x.po.c, .slice x.ov.a p3 x.ov.c, .slice x.fl.a p4 x.fl.c] := hx 2 50 rfl rfl
          have h3 : (fun v V => ∃ a n c, v = .slice a n c ∧ n = x.tr.length ∧ SlAt 1 intC V ⟨a, c, x.tr⟩) (a.eval (.tmp 51)) V := hx 3 51 rfl rfl
          obtain ⟨v51, e51⟩ : ∃ v, a.eval (.tmp 51) = v := ⟨_, rfl⟩
          rw [e51] at h3
          have h4 : a.eval (.tmp 52) = .int .u64 (ofN x.tr : Int) := hx 4 52 rfl rfl
          have h5 : a.eval (.tmp 53) = .pointer (some ⟨g8, 2, none⟩) := hx 5 53 rfl rfl
          have h6 : a.eval (.tmp 54) = .slice (some ⟨pb, po, none⟩) p1 x.pa.c := hx 6 54 rfl rfl
          have h7 : a.eval (.tmp 55) = .slice (some ⟨pb, po, none⟩) 1 x.pa.c := hx 7 55 rfl rfl
          have h8 : a.eval (.tmp 56) = .int .u64 ((withI 0 q0 : Nat) : Int) := hx 8 56 rfl rfl
          have h9 : a.eval (.tmp 57) = .pointer (some ⟨gl, 2, none⟩) := hx 9 57 rfl rfl
          have h10 : a.eval (.tmp 58) = .slice (some ⟨sb, so, none⟩) n3 L.sg.c := hx 10 58 rfl rfl
          have h11 : a.eval (.tmp 59) = .pointer (some ⟨g8, 1, none⟩) := hx 11 59 rfl rfl
          have h12 : a.eval (.tmp 60) = .int .i64 (sk : Int) := hx 12 60 rfl rfl
          have h13 : a.eval (.tmp 61) = .pointer (some ⟨sb, so + sk * 2, none⟩) := hx 13 61 rfl rfl
          have h14 : a.eval (.tmp 62) = .pointer (some ⟨sb, so + sk * 2 + 1, none⟩) := hx 14 62 rfl rfl
          have h15 : a.eval (.tmp 63) = .int .i64 sp.2 := hx 15 63 rfl rfl
          have h16 : (fun v V => ∃ g, v = .slice (some ⟨g, 0, none⟩) 1 1 ∧ V.heap[g]? = some (.cells #[.int .i64 sp.2] 3)) (a.eval (.tmp 64)) V := hx 16 64 rfl rfl
          obtain ⟨v64, e64⟩ : ∃ v, a.eval (.tmp 64) = v := ⟨_, rfl⟩
          rw [e64] at h16
          have h17 : a.eval (.tmp 65) = .int .u64 ((withI 0 sp.2 : Nat) : Int) := hx 17 65 rfl rfl
          have h18 : a.eval (.tmp 66) = .slice na nn nc := hx 18 66 rfl rfl
          have h19 : a.eval (.tmp 67) = .int .u32 (sideS x.nd false : Int) := hx 19 67 rfl rfl
          have h20 : a.eval (.tmp 68) = .slice na nn nc := hx 20 68 rfl rfl
          have h21 : a.eval (.tmp 69) = .int .u32 (sideS x.nd true : Int) := hx 21 69 rfl rfl
          have h22 : a.eval (.tmp 70) = .slice (some ⟨tb, tf, none⟩) tm tc := hx 22 70 rfl rfl
          have h23 : a.eval (.tmp 71) = .int .i64 (i : Int) := hx 23 71 rfl rfl
          have h24 : a.eval (.tmp 72) = .pointer (some ⟨tb, tf + i, none⟩) := hx 24 72 rfl rfl
          have h25 : a.eval (.tmp 73) = .int .u64 (rowS L i : Int) := hx 25 73 rfl rfl
          have h26 : a.eval (.tmp 74) = .agg #[.int .u64 (ofN x.tr : Int), .int .u64 ((withI 0 q0 : Nat) : Int), .int .u64 ((withI 0 sp.2 : Nat) : Int), .int .u32 (sideS x.nd false : Int), .int .u32 (sideS x.nd true : Int), .int .u64 (rowS L i : Int)] := hx 26 74 rfl rfl
          have h27 : (fun v V => ∃ g, v = .slice (some ⟨g, 0, none⟩) 1 1 ∧ V.heap[g]? = some (.cells #[.int .u64 (ofN x.tr : Int), .int .u64 ((withI 0 q0 : Nat) : Int), .int .u64 ((withI 0 sp.2 : Nat) : Int), .int .u32 (sideS x.nd false : Int), .int .u32 (sideS x.nd true : Int), .int .u64 (rowS L i : Int)] 50)) (a.eval (.tmp 75)) V := hx 27 75 rfl rfl
          obtain ⟨v75, e75⟩ : ∃ v, a.eval (.tmp 75) = v := ⟨_, rfl⟩
          rw [e75] at h27
          unfold fillAll
          simp only [List.foldl_cons, List.foldl_nil, h0, h1, h2, e51, h4, h5, h6, h7, h8, h9, h10, h11, h12, h13, h14, h15, e64, h17, h18, h19, h20, h21, h22, h23, h24, h25, h26, e75, Act.put, List.setIfInBounds_toArray, List.set_cons_zero, List.set_cons_succ]
          clear h0 h1 h2 e51 h4 h5 h6 h7 h8 h9 h10 h11 h12 h13 h14 h15 e64 h17 h18 h19 h20 h21 h22 h23 h24 h25 h26 e75 hx
          obtain ⟨g5, rfl, hq5⟩ := h27
          have HBV := Lib.hid (below_on (below_on HB8.out HB9.out) hb)
          have HQ5 := Lib.hid hq5
          have HOW := Lib.hid (own_below hb HON.out)
          have HQW := Lib.hid (blk_keep hb HMN.out)
          clear hb hq5 h3 h16
          obtain ⟨XS, hXS⟩ : ∃ X, ((mksS L).take i).flatMap mkC = X := ⟨_, rfl⟩
          obtain ⟨q, hq9⟩ : ∃ q, ((mksS L).take i).length = q := ⟨_, rfl⟩
          have hq1 : q ≤ 64 := by rw [← hq9, List.length_take]; have := HLT.out; have := HS4.out; omega
          have HXS := Lib.hid hXS
          have HQN := Lib.hid hq9
          have HMK : Hid ([.int .u64 (ofN x.tr : Int), .int .u64 ((withI 0 q0 : Nat) : Int), .int .u64 ((withI 0 sp.2 : Nat) : Int), .int .u32 (sideS x.nd false : Int), .int .u32 (sideS x.nd true : Int), .int .u64 (rowS L i : Int)] = mkC (mkR L x (rowS L i))) := Lib.hid (by unfold mkR mkC; rw [HF.out.1, HF.out.2])
          rw [hXS, hq9] at HOW
          clear hXS hq9
          have hsz : g6 + 1 ≤ V.heap.size := blk_lt HQW.out
          have HSR : Hid (SrcAt V (some ⟨g5, 0, none⟩) 1 [.int .u64 (ofN x.tr : Int), .int .u64 ((withI 0 q0 : Nat) : Int), .int .u64 ((withI 0 sp.2 : Nat) : Int), .int .u32 (sideS x.nd false : Int), .int .u32 (sideS x.nd true : Int), .int .u64 (rowS L i : Int)]) := Lib.hid (src_blk HQ5.out rfl (by rw [HMK.out]; exact mk_one _))
          obtain ⟨i0, hi, hz0, hz1, hz2⟩ := info_parts info_mkr
          refine wpAny_ready (rs := [28]) (by kernel_rfl) (by simp) (AllReady.cons (o := ⟨some 76, _, _, _, _, _⟩) rfl (fun K hK => ?_) AllReady.nil)
          refine step_append_src rfl (.tmp 49) (.tmp 75) 40 rfl (g6 + 1) 50 i0 (.agg #[.int .u64 0, .int .u64 0, .int .u64 0, .int .u32 0, .int .u32 0, .int .u64 0]) 6 40 Try.underlying40 hi hz0 hz1 hz2 rfl (by decide) vr q XS rfl HOW.out (some ⟨g5, 0, none⟩) 1 1 [.int .u64 (ofN x.tr : Int), .int .u64 ((withI 0 q0 : Nat) : Int), .int .u64 ((withI 0 sp.2 : Nat) : Int), .int .u32 (sideS x.nd false : Int), .int .u32 (sideS x.nd true : Int), .int .u64 (rowS L i : Int)] rfl rfl HSR.out (by unfold maxLen; omega) (by omega) hsz ?_
          intro v5 W5 hown5 hg5
          obtain ⟨a5, c5, rfl⟩ := k_sh hown5
          have HQ65 := Lib.hid (grown_keep hg5 HQW.out (fun hk => by have := (HOW.out.lt _ hk).1; omega))
          have HB5 : Hid (Below w1.heap.size w1 W5) := Lib.hid (HBV.out.grown hg5 HBV.out.size (fun k hk => by have := (HOW.out.lt _ hk).1; have := HG6.out; omega))
          have HO5 := Lib.hid hown5
          clear hown5 hg5
          refine hK _ _ ?_
          clear hK K hsz
          simp only [Act.put, List.setIfInBounds_toArray, List.set_cons_zero, List.set_cons_succ]
          refine wpAny_ready (rs := [29]) (by kernel_rfl) (by simp) (AllReady.cons (o := ⟨some 77, _, _, _, _, _⟩) rfl (fun K hK => ?_) AllReady.nil)
          go_simp
          refine hK _ _ ?_
          clear hK K
          refine wpAny_ready (rs := [30]) (by kernel_rfl) (by simp) (AllReady.cons (o := ⟨none, _, _, _, _, _⟩) rfl (fun K hK => ?_) AllReady.nil)
          have c0 := blk_cell HQ65.out 0 _ rfl
          have f0 := blk_free HQ65.out 0
          have hl := blk_lt HQ65.out
          go_simp
          clear c0 f0 hl
          refine name_K ?_
          intro W6 hW6
          have ho6 : Only g6 W5 W6 := by rw [hW6]; exact (Only.refl g6 W5).setCell rfl _
          have HQ6 : Hid (W6.heap[g6]? = some (.cells #[.slice a5 (q + 1) c5, .slice none 0 0, .int .u64 (al : Int), .int .u32 (pt : Int), .int .u64 (tr : Int)] 42)) := Lib.hid (by rw [hW6]; exact blk_set HQ65.out 0 _)
          have HB6 : Hid (Below w1.heap.size w1 W6) := Lib.hid (Only.below HB5.out HG6.out HB5.out.size ho6)
          have HO6 : Hid (W6.ownsRow (g6 + 1) 50 6 (.slice a5 (q + 1) c5) ((mksS L).take (i + 1)).length (((mksS L).take (i + 1)).flatMap mkC)) := Lib.hid (by
            have h := (WX.of_only (X := fun y => y = g6) ho6 rfl).own HO5.out (fun k hk e => by have := (World.ownsRow.lt HO5.out _ hk).1; omega)
            rw [mks_take HYX.out]
            refine k_snoc HMK.out ?_
            rw [HXS.out, HQN.out]
            exact h)
          clear hW6 ho6 hq1
          refine hK _ _ ?_
          clear hK K
          refine wpAny_done (by kernel_rfl) ?_ _
          go_wp2_with fail
          rw [← HXX.out, ← HTA.out]
          go_roundg (n4 - (i + 1))
          case rel => exact ⟨i + 1, _, k_next HI.out HLT.out, by go_num, HQ6.out, HO6.out, HB6.out⟩
          case measure => exact k_less HI.out HLT.out
      · skip
        have d2 : ¬ (i : Int) < n4 := by omega
        have hin : i = n4 := by have := HI.out; omega
        have ho := HO.out
        rw [hin, List.take_of_length_le (by rw [mks_len, HN4.out]; exact Nat.le_refl _)] at ho
        obtain ⟨wz, rfl⟩ : ∃ W, W = wr := ⟨_, rfl⟩
        obtain ⟨B2, hB2⟩ : ∃ b, b = wz.heap.size := ⟨_, rfl⟩
        have HB2 : Hid (B2 = wz.heap.size ∧ g6 < B2) := Lib.hid ⟨hB2, by rw [hB2]; exact blk_lt HQM.out⟩
        have HOR := Lib.hid ho
        have HRB : Hid (∀ k, vr.ownBlock = some k → g6 < k ∧ k < B2) := Lib.hid (fun k hk => by have := ho.lt _ hk; omega)
        clear ho hin hlt HI HO hB2
        go_upto_region 12 with fail
        clear l3
        go_loopg [10] n2 (fun g v wr => ∃ (j : Nat) (vl : Value), j + g = n2 ∧ v = .int .i64 (j : Int) ∧ wr.heap[g6]? = some (.cells #[vr, vl, .int .u64 (al : Int), .int .u32 (pt : Int), .int .u64 (tr : Int)] 42) ∧ wr.ownsRow B2 33 1 vl ((liesS L).take j).length (((liesS L).take j).flatMap u64C) ∧ WX (fun y => y = g6) wz wr)
        case atStart => exact ⟨0, .slice none 0 0, by omega, rfl, HQM.out, by rw [List.take_zero]; exact World.ownsRow_nil _ _ _ _, WX.refl _ _⟩
        case round =>
          obtain ⟨j, vl, hj, rfl, hq, ho, hwx⟩ := hrel
          have HJ := Lib.hid hj
          have HQ6V := Lib.hid hq
          have HOL := Lib.hid ho
          have HWX := Lib.hid hwx
          have HBZ : Hid (Below w1.heap.size w1 wr) := Lib.hid (WX.below HB.out hwx (fun y hy => by rw [hy]; exact HG6.out))
          have l1 := blk_cell (blk_keep HBZ.out HQL1.out) 1 _ rfl
          clear hj hq ho hwx
          by_cases hlj : j < n2
          · have d3 : (0 : Int) ≤ j := by omega
            have d4 : (j : Int) < n2 := by omega
            have e2 := k_succ hlj (Nat.le_trans HS2.out (by decide))
            have HLJ := Lib.hid hlj
            obtain ⟨pt1, hpt⟩ : ∃ p, L.po.l[j]? = some p := ⟨_, List.getElem?_eq_getElem (by rw [HN2.out]; exact hlj)⟩
            have HPJ := Lib.hid hpt
            obtain ⟨PX, hPX⟩ : ∃ a, L.po.a = a := ⟨_, rfl⟩
            have HPX := Lib.hid hPX
            have hrow := HLW.out.po.row
            rw [hPX] at hrow l1 ⊢
            rcases hrow with hnil | ⟨ob, of_, hob, hoc⟩
            · rw [hnil] at hpt; cases hpt
            subst hob
            have HPC := Lib.hid (cell_later (below_on HB1.out HBZ.out) (hoc j _ hpt 1 _ rfl))
            have HLP := Lib.hid l1
            clear hlj hpt hPX hoc
            go_upto_region 14 with fail
            clear l1
            refine wp_region_rel (by kernel_rfl) [11, 12, 13] 14 [0, 1, 2, 3, 4, 5, 6, 7, 8, 9, 10] [85, 86, 87, 88, 89, 90, 91, 92, 93, 94, 95] #[true, true, true, true, true, true, true, true, true, true, true, false, false, false] 3 [(fun v _ => v = .pointer (some ⟨g6, 1, none⟩)), (fun v _ => v = vl), (fun v _ => v = .pointer (some ⟨gl, 1, none⟩)), (fun v _ => v = .slice (some ⟨ob, of_, none⟩) n2 L.po.c), (fun v _ => v = .int .i64 (j : Int)), (fun v _ => v = .pointer (some ⟨ob, of_ + j * 2, none⟩)), (fun v _ => v = .pointer (some ⟨ob, of_ + j * 2 + 1, none⟩)), (fun v _ => v = .int .i64 pt1.2), (fun v V => ∃ g, v = .slice (some ⟨g, 0, none⟩) 1 1 ∧ V.heap[g]? = some (.cells #[.int .i64 pt1.2] 3)), (fun v _ => v = .int .u64 ((withI 0 pt1.2 : Nat) : Int)), (fun v V => ∃ g, v = .slice (some ⟨g, 0, none⟩) 1 1 ∧ V.heap[g]? = some (.cells #[.int .u64 ((withI 0 pt1.2 : Nat) : Int)] 33)), (fun _ _ => True), (fun _ _ => True), (fun _ _ => True)] (by kernel_rfl) (by kernel_rfl) (by kernel_rfl) (by kernel_rfl) (by kernel_rfl) rfl (by kernel_rfl) rfl ?_ ?_ ?_
            · exact ⟨stays_is _, stays_is _, stays_is _, stays_is _, stays_is _, stays_is _, stays_is _, stays_is _, (fun v W W2 h hb => by obtain ⟨g, h1, h2⟩ := h; exact ⟨g, h1, blk_keep hb h2⟩), stays_is _, (fun v W W2 h hb => by obtain ⟨g, h1, h2⟩ := h; exact ⟨g, h1, blk_keep hb h2⟩), stays_true, stays_true, stays_true, trivial⟩
            · refine ⟨?_, ?_, ?_, ?_, ?_, ?_, ?_, ?_, ?_, ?_, ?_, trivial⟩
              · refine relOb_mk (o := ⟨some 85, _, _, _, _, _⟩) rfl (fun r V hc hf hg hs hb hd => ?_)
                have x6 : r (.tmp 6) = .pointer (some ⟨g6, 0, none⟩) := hs 6 (by kernel_rfl)
                clear hs hd hg
                go_simp
                exact ⟨Below.refl _ _, rfl⟩
              · refine relOb_mk (o := ⟨some 86, _, _, _, _, _⟩) rfl (fun r V hc hf hg hs hb hd => ?_)
                have h0 : r (.tmp 85) = .pointer (some ⟨g6, 1, none⟩) := hd 0 85 rfl (by kernel_rfl)
                clear hs hd hg
                have l := blk_cell (blk_keep hb HQ6V.out) 1 _ rfl
                go_simp
                exact ⟨Below.refl _ _, rfl⟩
              · refine relOb_mk (o := ⟨some 87, _, _, _, _, _⟩) rfl (fun r V hc hf hg hs hb hd => ?_)
                have x1 : r (.tmp 1) = .pointer (some ⟨gl, 0, none⟩) := hs 1 (by kernel_rfl)
                clear hs hd hg
                go_simp
                exact ⟨Below.refl _ _, rfl⟩
              · refine relOb_mk (o := ⟨some 88, _, _, _, _, _⟩) rfl (fun r V hc hf hg hs hb hd => ?_)
                have h2 : r (.tmp 87) = .pointer (some ⟨gl, 1, none⟩) := hd 2 87 rfl (by kernel_rfl)
                clear hs hd hg
                have l := cell_later hb HLP.out
                go_simp
                exact ⟨Below.refl _ _, rfl⟩
              · refine relOb_mk (o := ⟨some 89, _, _, _, _, _⟩) rfl (fun r V hc hf hg hs hb hd => ?_)
                have x10 : r (.tmp 10) = .int .i64 (j : Int) := hs 10 (by kernel_rfl)
                clear hs hd hg
                go_simp
                exact ⟨Below.refl _ _, rfl⟩
              · refine relOb_mk (o := ⟨some 90, _, _, _, _, _⟩) rfl (fun r V hc hf hg hs hb hd => ?_)
                have h3 : r (.tmp 88) = .slice (some ⟨ob, of_, none⟩) n2 L.po.c := hd 3 88 rfl (by kernel_rfl)
                have h4 : r (.tmp 89) = .int .i64 (j : Int) := hd 4 89 rfl (by kernel_rfl)
                clear hs hd hg
                go_simp
                exact ⟨Below.refl _ _, rfl⟩
              · refine relOb_mk (o := ⟨some 91, _, _, _, _, _⟩) rfl (fun r V hc hf hg hs hb hd => ?_)
                have h5 : r (.tmp 90) = .pointer (some ⟨ob, of_ + j * 2, none⟩) := hd 5 90 rfl (by kernel_rfl)
                clear hs hd hg
                go_simp
                exact ⟨Below.refl _ _, rfl⟩
              · refine relOb_mk (o := ⟨some 92, _, _, _, _, _⟩) rfl (fun r V hc hf hg hs hb hd => ?_)
                have h6 : r (.tmp 91) = .pointer (some ⟨ob, of_ + j * 2 + 1, none⟩) := hd 6 91 rfl (by kernel_rfl)
                clear hs hd hg
                have l := cell_later hb HPC.out
                go_simp
                exact ⟨Below.refl _ _, rfl⟩
              · refine relOb_mk (o := ⟨some 93, _, _, _, _, _⟩) rfl (fun r V hc hf hg hs hb hd => ?_)
                have h7 : r (.tmp 92) = .int .i64 pt1.2 := hd 7 92 rfl (by kernel_rfl)
                clear hs hd hg
                go_simp
                exact ⟨below1 V _, ⟨_, rfl, alloc1 V _ (Below.refl _ _)⟩⟩
              · refine relOb_mk (o := ⟨some 94, _, _, _, _, _⟩) rfl (fun r V hc hf hg hs hb hd => ?_)
                have h8 : (fun v V => ∃ g, v = .slice (some ⟨g, 0, none⟩) 1 1 ∧ V.heap[g]? = some (.cells #[.int .i64 pt1.2] 3)) (r (.tmp 93)) V := hd 8 93 rfl (by kernel_rfl)
                obtain ⟨gq, hv, hqq⟩ := h8
                clear hs hd hg
                go_simp
                refine (rof_any (some ⟨gq, 0, none⟩) 1 1 [pt1.2] V rfl (by decide) (row_blk int_len hqq rfl)).mono ?_
                rintro e w' ⟨rfl, rfl⟩
                exact ⟨_, rfl, Below.refl _ _, by rw [of_one]⟩
              · refine relOb_mk (o := ⟨some 95, _, _, _, _, _⟩) rfl (fun r V hc hf hg hs hb hd => ?_)
                have h9 : r (.tmp 94) = .int .u64 ((withI 0 pt1.2 : Nat) : Int) := hd 9 94 rfl (by kernel_rfl)
                clear hs hd hg
                go_simp
                exact ⟨below1 V _, ⟨_, rfl, alloc1 V _ (Below.refl _ _)⟩⟩
            · intro a V hb hx
              have h0 : a.eval (.tmp 85) = .pointer (some ⟨g6, 1, none⟩) := hx 0 85 rfl rfl
              have h1 : a.eval (.tmp 86) = vl := hx 1 86 rfl rfl
              have h2 : a.eval (.tmp 87) = .pointer (some ⟨gl, 1, none⟩) := hx 2 87 rfl rfl
              have h3 : a.eval (.tmp 88) = .slice (some ⟨ob, of_, none⟩) n2 L.po.c := hx 3 88 rfl rfl
              have h4 : a.eval (.tmp 89) = .int .i64 (j : Int) := hx 4 89 rfl rfl
              have h5 : a.eval (.tmp 90) = .pointer (some ⟨ob, of_ + j * 2, none⟩) := hx 5 90 rfl rfl
              have h6 : a.eval (.tmp 91) = .pointer (some ⟨ob, of_ + j * 2 + 1, none⟩) := hx 6 91 rfl rfl
              have h7 : a.eval (.tmp 92) = .int .i64 pt1.2 := hx 7 92 rfl rfl
              have h8 : (fun v V => ∃ g, v = .slice (some ⟨g, 0, none⟩) 1 1 ∧ V.heap[g]? = some (.cells #[.int .i64 pt1.2] 3)) (a.eval (.tmp 93)) V := hx 8 93 rfl rfl
              obtain ⟨v93, e93⟩ : ∃ v, a.eval (.tmp 93) = v := ⟨_, rfl⟩
              rw [e93] at h8
              have h9 : a.eval (.tmp 94) = .int .u64 ((withI 0 pt1.2 : Nat) : Int) := hx 9 94 rfl rfl
              have h10 : (fun v V => ∃ g, v = .slice (some ⟨g, 0, none⟩) 1 1 ∧ V.heap[g]? = some (.cells #[.int .u64 ((withI 0 pt1.2 : Nat) : Int)] 33)) (a.eval (.tmp 95)) V := hx 10 95 rfl rfl
              obtain ⟨v95, e95⟩ : ∃ v, a.eval (.tmp 95) = v := ⟨_, rfl⟩
              rw [e95] at h10
              unfold fillAll
              simp only [List.foldl_cons, List.foldl_nil, h0, h1, h2, h3, h4, h5, h6, h7, e93, h9, e95, Act.put, List.setIfInBounds_toArray, List.set_cons_zero, List.set_cons_succ]
              clear h0 h1 h2 h3 h4 h5 h6 h7 e93 h9 e95 hx
              obtain ⟨g5, rfl, hq5⟩ := h10
              have HBV := Lib.hid hb
              have HQ5 := Lib.hid hq5
              have HOW := Lib.hid (own_below hb HOL.out)
              have HQW := Lib.hid (blk_keep hb HQ6V.out)
              have HWV := Lib.hid (HWX.out.trans (WX.of_below hb))
              clear hb hq5 h8
              obtain ⟨XS, hXS⟩ : ∃ X, ((liesS L).take j).flatMap u64C = X := ⟨_, rfl⟩
              obtain ⟨q, hq9⟩ : ∃ q, ((liesS L).take j).length = q := ⟨_, rfl⟩
              have hq1 : q ≤ 64 := by rw [← hq9, List.length_take]; have := HLJ.out; have := HS2.out; omega
              have HXS := Lib.hid hXS
              have HQN := Lib.hid hq9
              rw [hXS, hq9] at HOW
              clear hXS hq9
              have hsz : B2 ≤ V.heap.size := by have := HWV.out.size; have := HB2.out; omega
              obtain ⟨i0, hi, hz0, hz1, hz2⟩ := info_parts info_u64
              refine wpAny_ready (rs := [11]) (by kernel_rfl) (by simp) (AllReady.cons (o := ⟨some 96, _, _, _, _, _⟩) rfl (fun K hK => ?_) AllReady.nil)
              refine step_append_src rfl (.tmp 86) (.tmp 95) 32 rfl B2 33 i0 (.int .u64 0) 1 8 Try.underlying32 hi hz0 hz1 hz2 rfl (by decide) vl q XS rfl HOW.out (some ⟨g5, 0, none⟩) 1 1 [.int .u64 ((withI 0 pt1.2 : Nat) : Int)] rfl rfl (src_one rfl HQ5.out) (by unfold maxLen; omega) (by omega) hsz ?_
              intro v5 W5 hown5 hg5
              obtain ⟨a5, c5, rfl⟩ := k_sh hown5
              have HQ65 := Lib.hid (grown_keep hg5 HQW.out (fun hk => by have := (HOW.out.lt _ hk).1; have := HB2.out; omega))
              have HW5 : Hid (WX (fun y => y = g6) wz W5) := Lib.hid (HWV.out.trans_grown hg5 (fun k hk => by have := (HOW.out.lt _ hk).1; have := HB2.out; omega))
              have HO5 := Lib.hid hown5
              clear hown5 hg5
              refine hK _ _ ?_
              clear hK K hsz
              simp only [Act.put, List.setIfInBounds_toArray, List.set_cons_zero, List.set_cons_succ]
              refine wpAny_ready (rs := [12]) (by kernel_rfl) (by simp) (AllReady.cons (o := ⟨some 97, _, _, _, _, _⟩) rfl (fun K hK => ?_) AllReady.nil)
              go_simp
              refine hK _ _ ?_
              clear hK K
              refine wpAny_ready (rs := [13]) (by kernel_rfl) (by simp) (AllReady.cons (o := ⟨none, _, _, _, _, _⟩) rfl (fun K hK => ?_) AllReady.nil)
              have c0 := blk_cell HQ65.out 1 _ rfl
              have f0 := blk_free HQ65.out 1
              have hl := blk_lt HQ65.out
              go_simp
              clear c0 f0 hl
              refine name_K ?_
              intro W6 hW6
              have ho6 : Only g6 W5 W6 := by rw [hW6]; exact (Only.refl g6 W5).setCell rfl _
              have HQ6 : Hid (W6.heap[g6]? = some (.cells #[vr, .slice a5 (q + 1) c5, .int .u64 (al : Int), .int .u32 (pt : Int), .int .u64 (tr : Int)] 42)) := Lib.hid (by rw [hW6]; exact blk_set HQ65.out 1 _)
              have HW6 : Hid (WX (fun y => y = g6) wz W6) := Lib.hid (HW5.out.trans (WX.of_only ho6 rfl))
              have HO6 : Hid (W6.ownsRow B2 33 1 (.slice a5 (q + 1) c5) ((liesS L).take (j + 1)).length (((liesS L).take (j + 1)).flatMap u64C)) := Lib.hid (by
                have h := (WX.of_only (X := fun y => y = g6) ho6 rfl).own HO5.out (fun k hk e => by have := (World.ownsRow.lt HO5.out _ hk).1; have := HB2.out; omega)
                rw [lies_take HPJ.out]
                refine k_snoc (x := withI 0 pt1.2) rfl ?_
                rw [HXS.out, HQN.out]
                exact h)
              clear hW6 ho6 hq1
              refine hK _ _ ?_
              clear hK K
              refine wpAny_done (by kernel_rfl) ?_ _
              go_wp2_with fail
              rw [← HPX.out]
              go_roundg (n2 - (j + 1))
              case rel => exact ⟨j + 1, _, k_next HJ.out HLJ.out, by go_num, HQ6.out, HO6.out, HW6.out⟩
              case measure => exact k_less HJ.out HLJ.out
          · have d4 : ¬ (j : Int) < n2 := by omega
            have hjn : j = n2 := by have := HJ.out; omega
            have ho := HOL.out
            rw [hjn, List.take_of_length_le (by unfold liesS; rw [List.length_map, HN2.out]; exact Nat.le_refl _)] at ho
            have hr := HWX.out.own HOR.out (fun k hk e => by have := (HRB.out k hk).1; omega)
            obtain ⟨ar, cr, rfl⟩ := k_sh hr
            obtain ⟨al2, cl2, rfl⟩ := k_sh ho
            obtain ⟨NR, hNR⟩ : ∃ n, (mksS L).length = n := ⟨_, rfl⟩
            obtain ⟨NL, hNL⟩ : ∃ n, (liesS L).length = n := ⟨_, rfl⟩
            have HOL2 := Lib.hid ho
            have HR2 := Lib.hid hr
            have HNRL := Lib.hid (And.intro hNR hNL)
            have hq6 := HQ6V.out
            rw [hNR, hNL] at hq6
            have y0 := blk_cell hq6 0 _ rfl; have y1 := blk_cell hq6 1 _ rfl; have y2 := blk_cell hq6 2 _ rfl; have y3 := blk_cell hq6 3 _ rfl; have y4 := blk_cell hq6 4 _ rfl
            have HQ2Z := Lib.hid (blk_keep HBZ.out HQ21.out)
            have c0 := blk_cell HQ2Z.out 0 _ rfl
            have f0 := blk_free HQ2Z.out 0
            have c1 := blk_cell HQ2Z.out 1 _ rfl
            have f1 := blk_free HQ2Z.out 1
            have c2 := blk_cell HQ2Z.out 2 _ rfl
            have f2 := blk_free HQ2Z.out 2
            have c3 := blk_cell HQ2Z.out 3 _ rfl
            have f3 := blk_free HQ2Z.out 3
            have c4 := blk_cell HQ2Z.out 4 _ rfl
            have f4 := blk_free HQ2Z.out 4
            have hl := blk_lt HQ2Z.out
            clear ho hr hjn hlj hNR hNL hq6
            go_wp2_with fail
            clear y0 y1 y2 y3 y4
            clear c0 f0 c1 f1 c2 f2 c3 f3 c4 f4 hl
            refine name_any ?_
            intro WZ hWZ
            have ho : Only g2 wr WZ := by rw [hWZ]; exact (((((Only.refl g2 wr).setCell rfl _).setCell rfl _).setCell rfl _).setCell rfl _).setCell rfl _
            have hqz : WZ.heap[g2]? = some (.cells #[.slice ar NR cr, .slice al2 NL cl2, .int .u64 (al : Int), .int .u32 (pt : Int), .int .u64 (tr : Int)] 42) := by rw [hWZ]; exact blk_set (blk_set (blk_set (blk_set (blk_set HQ2Z.out 0 _) 1 _) 2 _) 3 _) 4 _
            have hbz : Below w.heap.size w WZ := Only.below (below_on HB1.out HBZ.out) HGE.out (below_on HB1.out HBZ.out).size ho
            have hg2 : g2 < w1.heap.size := blk_lt HQ21.out
            have hR := (WX.of_only (X := fun y => y = g2) ho rfl).own HR2.out (fun k hk e => by have := (HRB.out k hk).1; have := HG6.out; omega)
            have hL2 := (WX.of_only (X := fun y => y = g2) ho rfl).own HOL2.out (fun k hk e => by have := (World.ownsRow.lt HOL2.out _ hk).1; have := HG6.out; have := HB2.out; omega)
            obtain ⟨a1, c1, hv1, hs1⟩ := own_sl (l := mksS L) mk_len rfl hR
            obtain ⟨a2, c2, hv2, hs2⟩ := own_sl (l := liesS L) u64_len rfl hL2
            injection hv1 with hv1
            injection hv2 with hv2
            subst hv1
            subst hv2
            have e0 := blk_cell hqz 0 _ rfl
            have e1 := blk_cell hqz 1 _ rfl
            have e2 := blk_cell hqz 2 _ rfl
            have e3 := blk_cell hqz 3 _ rfl
            have e4 := blk_cell hqz 4 _ rfl
            have HEND : Hid (RowAt 6 mkC WZ ar (mksS L) ∧ RowAt 1 u64C WZ al2 (liesS L) ∧ Below w.heap.size w WZ) := Lib.hid ⟨hs1.row, hs2.row, hbz⟩
            clear hWZ ho hqz hR hL2 hs1 hs2 hbz
            refine bodyPost_ret (v := .tuple #[.agg #[.slice ar NR cr, .slice al2 NL cl2, .int .u64 (al : Int), .int .u32 (pt : Int), .int .u64 (tr : Int)], .int .i64 0]) (by simp [results, Try.results11, go_sem, e0, e1, e2, e3, e4]) rfl ?_
            obtain ⟨t1, t2, t3, t4, t5⟩ := HALL.out
            rw [t1, t2, t3, t4, t5]
            exact ⟨ar, cr, al2, cl2, NR, NL, rfl, HNRL.out.1.symm, HNRL.out.2.symm, HEND.out.1, HEND.out.2.1, HEND.out.2.2⟩
end Go.Proofs.Ytififkielmddpaa
