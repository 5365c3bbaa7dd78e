/-
  layout.May: which layouts may be.
-/
import Derived.Test.YtdkcpejlojdijaaToC
namespace Go.Proofs.Ytdkcpejlojdijaa
open Go.RowKit

/-- what lies in memory while May runs: the layout's copy, the book, its names -/
structure MyAt (w0 w : World) (gl gb r : Nat) (L : Lay) : Prop where
  lay : w.heap[gl]? = some (.cells #[L.se.v, L.po.v, L.sg.v, L.rt.v] 39)
  o1 : w0.heap.size ≤ gl
  o2 : gl < r
  o3 : r < gb
  o4 : gb < w.heap.size
  below : Below w0.heap.size w0 w
theorem MyAt.step {w0 w w' : World} {gl gb r : Nat} {L : Lay} (h : MyAt w0 w gl gb r L) (hb : Below w.heap.size w w') : MyAt w0 w' gl gb r L := ⟨blk_keep hb h.lay, h.o1, h.o2, h.o3, Nat.lt_of_lt_of_le h.o4 hb.size, h.below.trans (hb.mono h.below.size)⟩
theorem MyAt.only {w0 w w' : World} {gl gb r : Nat} {L : Lay} (h : MyAt w0 w gl gb r L) (ho : Only r w w') : MyAt w0 w' gl gb r L := by
  obtain ⟨h1, o1, o2, o3, o4, bl⟩ := h
  exact ⟨ho.keep (by omega) h1, o1, o2, o3, Nat.lt_of_lt_of_le o4 ho.size, Only.below bl (by omega) bl.size ho⟩
theorem hasN_no {pre : List BA} {s : BA} (h : hasN pre s = false) : s ∉ pre := fun hm => by rw [hasN_iff.2 hm] at h; exact absurd h (by decide)
theorem okNm_r {pre : List BA} {s : BA} (h : rightS s = false) : okNm pre s = false := by unfold okNm; rw [h]; rfl
theorem okNm_t {pre : List BA} {s : BA} (h : hasN pre s = true) : okNm pre s = false := by unfold okNm; rw [h]; simp
theorem okNm_y {pre : List BA} {s : BA} (h1 : rightS s = true) (h2 : hasN pre s = false) : okNm pre s = true := by unfold okNm; rw [h1, h2]; rfl
theorem name_world05 {P : Program} {c : Code} {Q : Exit → Act → World → Prop} {a : Act} {w : World} (h : ∀ W, W = w → c.wp P Q a W) : c.wp P Q a w := h w rfl
theorem st1_0 {l : List BA} {k : Nat} {s : BA} (h : l[k]? = some s) (hs : nmsFrom [] (l.take k) = false) : nmsFrom [] (l.take (k + 1)) = false := by rw [nms_take h, hs]; rfl
theorem st1_b {l : List BA} {k : Nat} {s : BA} {b : Bool} (h : l[k]? = some s) (hs : nmsFrom [] (l.take k) = true) (hb : okNm (l.take k) s = b) : nmsFrom [] (l.take (k + 1)) = b := by rw [nms_take h, hs, List.nil_append, hb]; rfl
theorem st2_0 {A : Bool} {pre : List BA} {n : Nat} {l : List (BA × Int)} {k : Nat} {c : BA × Int} (h : l[k]? = some c) (hs : (A && ptsFrom pre n (l.take k)) = false) : (A && ptsFrom pre n (l.take (k + 1))) = false := by rw [pts_take h, ← Bool.and_assoc, hs]; rfl
theorem st2_n {A : Bool} {pre : List BA} {n : Nat} {l : List (BA × Int)} {k : Nat} {c : BA × Int} (h : l[k]? = some c) (hb : okNm (pre ++ (l.take k).map (·.1)) c.1 = false) : (A && ptsFrom pre n (l.take (k + 1))) = false := by rw [pts_take h, hb]; simp
theorem st2_b {A : Bool} {pre : List BA} {n : Nat} {l : List (BA × Int)} {k : Nat} {c : BA × Int} {d : Bool} (h : l[k]? = some c) (hs : (A && ptsFrom pre n (l.take k)) = true) (hb : okNm (pre ++ (l.take k).map (·.1)) c.1 = true) (hd : decide (0 ≤ c.2 ∧ c.2 < (n : Int)) = d) : (A && ptsFrom pre n (l.take (k + 1))) = d := by rw [pts_take h, ← Bool.and_assoc, hs, hb, hd]; simp
theorem st4_0 {A : Bool} {pre : List BA} {G S P : Nat} {l : List Rt} {k : Nat} {c : Rt} (h : l[k]? = some c) (hs : (A && rtsFrom pre G S P (l.take k)) = false) : (A && rtsFrom pre G S P (l.take (k + 1))) = false := by rw [rts_take h, ← Bool.and_assoc, hs]; rfl
theorem st4_n {A : Bool} {pre : List BA} {G S P : Nat} {l : List Rt} {k : Nat} {c : Rt} (h : l[k]? = some c) (hb : okNm (pre ++ (l.take k).map (·.nm)) c.nm = false) : (A && rtsFrom pre G S P (l.take (k + 1))) = false := by rw [rts_take h, hb]; simp
theorem st4_d {A : Bool} {pre : List BA} {G S P : Nat} {l : List Rt} {k : Nat} {c : Rt} (h : l[k]? = some c) (hb : decide (0 ≤ c.sg ∧ c.sg < (G : Int)) = false) : (A && rtsFrom pre G S P (l.take (k + 1))) = false := by rw [rts_take h, hb]; simp
theorem st4_b {A : Bool} {pre : List BA} {G S P : Nat} {l : List Rt} {k : Nat} {c : Rt} {e : Bool} (h : l[k]? = some c) (hs : (A && rtsFrom pre G S P (l.take k)) = true) (hb : okNm (pre ++ (l.take k).map (·.nm)) c.nm = true) (hd : decide (0 ≤ c.sg ∧ c.sg < (G : Int)) = true) (he : rtB S P c = e) : (A && rtsFrom pre G S P (l.take (k + 1))) = e := by rw [rts_take h, ← Bool.and_assoc, hs, hb, hd, he]; simp
theorem st4_e {A : Bool} {pre : List BA} {G S P : Nat} {l : List Rt} {k : Nat} {c : Rt} (h : l[k]? = some c) (he : rtB S P c = false) : (A && rtsFrom pre G S P (l.take (k + 1))) = false := by rw [rts_take h, he]; simp
theorem rtB_1 {S P : Nat} {c : Rt} (h : ¬ c.pa.l.length ≤ 16) : rtB S P c = false := by unfold rtB; rw [decide_eq_false h]; rfl
theorem rtB_2 {S P : Nat} {c : Rt} (h : ¬ c.ov.l.length ≤ 16) : rtB S P c = false := by unfold rtB; rw [decide_eq_false h]; simp
theorem rtB_3 {S P : Nat} {c : Rt} (h : belowB S c.pa.l = false) : rtB S P c = false := by unfold rtB; rw [h]; simp
theorem rtB_4 {S P : Nat} {c : Rt} (h : belowB S c.ov.l = false) : rtB S P c = false := by unfold rtB; rw [h]; simp
theorem rtB_5 {S P : Nat} {c : Rt} (h : mayB P c.po.l = false) : rtB S P c = false := by unfold rtB; rw [h]; simp
theorem rtB_6 {S P : Nat} {c : Rt} (h : mayB P c.fl.l = false) : rtB S P c = false := by unfold rtB; rw [h]; simp
theorem rtB_7 {S P : Nat} {c : Rt} (h1 : c.pa.l.length ≤ 16) (h2 : c.ov.l.length ≤ 16) (h3 : belowB S c.pa.l = true) (h4 : belowB S c.ov.l = true) (h5 : mayB P c.po.l = true) (h6 : mayB P c.fl.l = true) : rtB S P c = true := by
  unfold rtB; rw [decide_eq_true h1, decide_eq_true h2, h3, h4, h5, h6]; rfl
theorem may_end {L : Lay} {A2 A3 b : Bool} (h0 : L.small = true) (h2 : (nmsFrom [] L.se.l && ptsFrom L.n1 L.se.l.length L.po.l) = A2) (h3 : (A2 && ptsFrom L.n2 L.se.l.length L.sg.l) = A3) (h4 : (A3 && rtsFrom L.n3 L.sg.l.length L.se.l.length L.po.l.length L.rt.l) = b) : mayS L = b := by
  unfold mayS; rw [h0, ← h4, ← h3, ← h2]; rfl
theorem may_big {L : Lay} (h0 : L.small = false) : mayS L = false := by unfold mayS; rw [h0]; rfl
theorem small_no {L : Lay} (h : ¬ (L.se.l.length ≤ 64 ∧ L.po.l.length ≤ 32 ∧ L.sg.l.length ≤ 32 ∧ L.rt.l.length ≤ 64)) : L.small = false := decide_eq_false h
theorem small_yes {L : Lay} (h1 : L.se.l.length ≤ 64) (h2 : L.po.l.length ≤ 32) (h3 : L.sg.l.length ≤ 32) (h4 : L.rt.l.length ≤ 64) : L.small = true := decide_eq_true ⟨h1, h2, h3, h4⟩
theorem n2_eq (L : Lay) : L.n1 ++ L.po.l.map (·.1) = L.n2 := rfl
theorem n3_eq (L : Lay) : L.n2 ++ L.sg.l.map (·.1) = L.n3 := rfl
theorem n1_eq (L : Lay) : L.se.l = L.n1 := rfl
theorem pts_nil (pre : List BA) (n : Nat) : ptsFrom pre n [] = true := by unfold ptsFrom belowB; rfl
theorem rts_nil (pre : List BA) (G S P : Nat) : rtsFrom pre G S P [] = true := by unfold rtsFrom belowB; rfl
theorem nms_nil : nmsFrom [] [] = true := rfl
theorem slv2 {α : Type} {a : Option Addr} {c : Nat} {l : List α} {n : Nat} (h : l.length = n) : Sl.v (⟨a, c, l⟩ : Sl α) = .slice a n c := by unfold Sl.v; rw [h]
theorem slv {α : Type} {s : Sl α} {n : Nat} (h : s.l.length = n) : s.v = .slice s.a n s.c := by unfold Sl.v; rw [h]
theorem take_names {α : Type} {f : α → BA} {l : List α} {k : Nat} {c : α} (h : l[k]? = some c) : (l.take (k + 1)).map f = (l.take k).map f ++ [f c] := by rw [List.take_add_one, h, List.map_append]; rfl
theorem take_id {l : List BA} {k : Nat} {c : BA} (h : l[k]? = some c) : l.take (k + 1) = l.take k ++ [c] := by rw [List.take_add_one, h]; rfl
attribute [local irreducible] belowB mayB okNm nmsFrom ptsFrom rtsFrom rtB hasN rightS mayS Lay.small Lay.n1 Lay.n2 Lay.n3 Sl.v
set_option maxRecDepth 100000 in
set_option maxHeartbeats 200000000 in
theorem may_lay (L : Lay) (w : World) (hL : LayAt w L) : Calls Try.prog 26 #[.agg #[L.se.v, L.po.v, L.sg.v, L.rt.v]] w fun e w' => e = .returned (.bool (mayS L)) ∧ Below w.heap.size w w' := by
  have HA := Lib.hid hL
  obtain ⟨n1, hn1⟩ : ∃ n, L.se.l.length = n := ⟨_, rfl⟩
  obtain ⟨n2, hn2⟩ : ∃ n, L.po.l.length = n := ⟨_, rfl⟩
  obtain ⟨n3, hn3⟩ : ∃ n, L.sg.l.length = n := ⟨_, rfl⟩
  obtain ⟨n4, hn4⟩ : ∃ n, L.rt.l.length = n := ⟨_, rfl⟩
  have v1 := slv hn1
  have v2 := slv hn2
  have v3 := slv hn3
  have v4 := slv hn4
  have R1 := Lib.hid hL.se.row
  have R2 := Lib.hid hL.po.row
  have R3 := Lib.hid hL.sg.row
  have R4 := Lib.hid hL.rt.row
  obtain ⟨a1, ha1⟩ : ∃ a, L.se.a = a := ⟨_, rfl⟩
  obtain ⟨a2, ha2⟩ : ∃ a, L.po.a = a := ⟨_, rfl⟩
  obtain ⟨a3, ha3⟩ : ∃ a, L.sg.a = a := ⟨_, rfl⟩
  obtain ⟨a4, ha4⟩ : ∃ a, L.rt.a = a := ⟨_, rfl⟩
  obtain ⟨c1, hc1⟩ : ∃ c, L.se.c = c := ⟨_, rfl⟩
  obtain ⟨c2, hc2⟩ : ∃ c, L.po.c = c := ⟨_, rfl⟩
  obtain ⟨c3, hc3⟩ : ∃ c, L.sg.c = c := ⟨_, rfl⟩
  obtain ⟨c4, hc4⟩ : ∃ c, L.rt.c = c := ⟨_, rfl⟩
  rw [ha1, hc1] at v1
  rw [ha2, hc2] at v2
  rw [ha3, hc3] at v3
  rw [ha4, hc4] at v4
  rw [ha1] at R1
  rw [ha2] at R2
  rw [ha3] at R3
  rw [ha4] at R4
  rw [v1, v2, v3, v4]
  have N1 := Lib.hid hn1
  have N2 := Lib.hid hn2
  have N3 := Lib.hid hn3
  have N4 := Lib.hid hn4
  have HV := Lib.hid (And.intro v1 (And.intro v2 (And.intro v3 v4)))
  clear hn1 hn2 hn3 hn4 ha1 ha2 ha3 ha4 hc1 hc2 hc3 hc4 v1 v2 v3 v4 hL
  obtain ⟨gl, hgl⟩ : ∃ g, g = w.heap.size := ⟨_, rfl⟩
  by_cases x1 : 64 < n1
  · have HF : Hid (mayS L = false) := Lib.hid (may_big (small_no (by have := N1.out; have := N2.out; have := N3.out; have := N4.out; omega)))
    have y1 : (64 : Int) < (n1 : Nat) := by omega
    clear x1
    go_enter Try.func26, Try.ntmps26
    go_wp2_with fail
    go_quiet (fail)
    go_wp2_with fail
    go_ret
    exact ⟨by rw [HF.out]; rfl, below_drewN (below1 _ _) _⟩
  have y1 : ¬ (64 : Int) < (n1 : Nat) := by omega
  by_cases x2 : 32 < n2
  · have HF : Hid (mayS L = false) := Lib.hid (may_big (small_no (by have := N1.out; have := N2.out; have := N3.out; have := N4.out; omega)))
    have y1 : (32 : Int) < (n2 : Nat) := by omega
    clear x2
    go_enter Try.func26, Try.ntmps26
    go_wp2_with fail
    go_quiet (fail)
    go_wp2_with fail
    go_ret
    exact ⟨by rw [HF.out]; rfl, below_drewN (below1 _ _) _⟩
  have y2 : ¬ (32 : Int) < (n2 : Nat) := by omega
  by_cases x3 : 32 < n3
  · have HF : Hid (mayS L = false) := Lib.hid (may_big (small_no (by have := N1.out; have := N2.out; have := N3.out; have := N4.out; omega)))
    have y1 : (32 : Int) < (n3 : Nat) := by omega
    clear x3
    go_enter Try.func26, Try.ntmps26
    go_wp2_with fail
    go_quiet (fail)
    go_wp2_with fail
    go_ret
    exact ⟨by rw [HF.out]; rfl, below_drewN (below1 _ _) _⟩
  have y3 : ¬ (32 : Int) < (n3 : Nat) := by omega
  by_cases x4 : 64 < n4
  · have HF : Hid (mayS L = false) := Lib.hid (may_big (small_no (by have := N1.out; have := N2.out; have := N3.out; have := N4.out; omega)))
    have y1 : (64 : Int) < (n4 : Nat) := by omega
    clear x4
    go_enter Try.func26, Try.ntmps26
    go_wp2_with fail
    go_quiet (fail)
    go_wp2_with fail
    go_ret
    exact ⟨by rw [HF.out]; rfl, below_drewN (below1 _ _) _⟩
  have y4 : ¬ (64 : Int) < (n4 : Nat) := by omega
  have hmm : ∀ (t : TypeId) (w : World), (Instr.makeMap t none).run Try.prog w = .ok (.map (some w.heap.size)) (w.alloc (.map #[] 0)) := fun t w => by simp [Instr.makeMap, Result.andThen]
  have HSM := Lib.hid (small_yes (L := L) (by have := N1.out; omega) (by have := N2.out; omega) (by have := N3.out; omega) (by have := N4.out; omega))
  have x1 : n1 ≤ 64 := by omega
  have x2 : n2 ≤ 32 := by omega
  have x3 : n3 ≤ 32 := by omega
  have x4 : n4 ≤ 64 := by omega
  have HXX := Lib.hid (And.intro x1 (And.intro x2 (And.intro x3 x4)))
  clear x1 x2 x3 x4
  go_enter Try.func26, Try.ntmps26
  go_wp2_with fail
  go_quiet (fail)
  obtain ⟨W2, hW2⟩ : ∃ W', W' = (w.alloc (.cells #[.slice a1 n1 c1, .slice a2 n2 c2, .slice a3 n3 c3, .slice a4 n4 c4] 39)).drewN nq := ⟨_, rfl⟩
  have hB2 := below_drewN (below1 w (.cells #[.slice a1 n1 c1, .slice a2 n2 c2, .slice a3 n3 c3, .slice a4 n4 c4] 39)) nq
  have hl2 : W2.heap[w.heap.size]? = some (.cells #[.slice a1 n1 c1, .slice a2 n2 c2, .slice a3 n3 c3, .slice a4 n4 c4] 39) := by rw [hW2]; exact alloc1 w _ (below_drewN (Below.refl _ _) nq)
  rw [← hW2] at hB2 ⊢
  rw [← hgl] at hl2 ⊢
  clear hW2
  have HB2 := Lib.hid hB2
  have HL2 := Lib.hid hl2
  have HGL := Lib.hid hgl
  clear hgl hB2
  obtain ⟨l0, l1, l2, l3⟩ : W2.cell? ⟨gl, 0, none⟩ = some (.slice a1 n1 c1) ∧ W2.cell? ⟨gl, 1, none⟩ = some (.slice a2 n2 c2) ∧ W2.cell? ⟨gl, 2, none⟩ = some (.slice a3 n3 c3) ∧ W2.cell? ⟨gl, 3, none⟩ = some (.slice a4 n4 c4) := ⟨blk_cell hl2 0 _ rfl, blk_cell hl2 1 _ rfl, blk_cell hl2 2 _ rfl, blk_cell hl2 3 _ rfl⟩
  clear hl2 l0 l1 l2 l3
  go_upto_region 6 with fail
  refine name_world05 ?_
  intro W3 hW3
  obtain ⟨r, hr⟩ : ∃ r, r = W2.heap.size := ⟨_, rfl⟩
  obtain ⟨gb, hgb⟩ : ∃ g, g = r + 1 := ⟨_, rfl⟩
  have hM : MyAt w W3 gl gb r L := by
    obtain ⟨q1, q2⟩ := alloc2' W2 (.map #[] 0) (.cells #[.slice none 0 0, .slice none 0 0, .slice none 0 0, .slice none 0 0, .map (some W2.heap.size)] 65)
    rw [hW3]
    refine ⟨?_, by rw [HGL.out]; exact Nat.le_refl _, by rw [hr]; exact blk_lt HL2.out, by omega, by rw [hgb, hr]; exact blk_lt q2, below_on HB2.out (below2' W2 _ _)⟩
    rw [HV.out.1, HV.out.2.1, HV.out.2.2.1, HV.out.2.2.2]
    exact blk_keep (below2' W2 _ _) HL2.out
  have hK : BookAt W3 gb r [] := by
    obtain ⟨q1, q2⟩ := alloc2' W2 (.map #[] 0) (.cells #[.slice none 0 0, .slice none 0 0, .slice none 0 0, .slice none 0 0, .map (some W2.heap.size)] 65)
    rw [hW3, hgb, hr]
    exact ⟨⟨_, _, _, _, q2⟩, ⟨_, _, q1, rfl⟩, by omega⟩
  rw [← hr, ← hgb]
  have HM := Lib.hid hM
  have HBK := Lib.hid hK
  clear hW3 hr hgb hM hK HL2 HB2 hmm
  obtain ⟨l0, l1, l2, l3⟩ : W3.cell? ⟨gl, 0, none⟩ = some (.slice a1 n1 c1) ∧ W3.cell? ⟨gl, 1, none⟩ = some (.slice a2 n2 c2) ∧ W3.cell? ⟨gl, 2, none⟩ = some (.slice a3 n3 c3) ∧ W3.cell? ⟨gl, 3, none⟩ = some (.slice a4 n4 c4) := by
    obtain ⟨v1, v2, v3, v4⟩ := HV.out
    rw [← v1, ← v2, ← v3, ← v4]
    have q := HM.out.lay
    exact ⟨blk_cell q 0 _ rfl, blk_cell q 1 _ rfl, blk_cell q 2 _ rfl, blk_cell q 3 _ rfl⟩
  go_wp2_with fail
  clear l0 l1 l2 l3
  go_loopg [8, 9, 10, 49] n1 (fun g ok _ _ i wr => ∃ (k : Nat) (okv : Bool), k + g = n1 ∧ ok = .bool okv ∧ i = .int .i64 (k : Int) ∧ nmsFrom [] (L.se.l.take k) = okv ∧ (okv = true → BookAt wr gb r (L.se.l.take k)) ∧ MyAt w wr gl gb r L)
  case atStart => exact ⟨0, true, by omega, rfl, rfl, nms_nil, fun _ => by rw [List.take_zero]; exact HBK.out, HM.out⟩
  case round =>
    obtain ⟨k, okv, hk, rfl, rfl, hst, hbk, hM⟩ := hrel
    clear HM HBK
    have HM := Lib.hid hM
    have HS := Lib.hid hst
    have HBK := Lib.hid hbk
    clear hst hbk hM
    by_cases hlt : k < n1
    · obtain ⟨y, hy⟩ : ∃ y, L.se.l[k]? = some y := ⟨_, List.getElem?_eq_getElem (by rw [N1.out]; exact hlt)⟩
      rcases R1.out.below HM.out.below with hnil | ⟨xb, off, rfl, hc⟩
      · rw [hnil] at hy; simp at hy
      have z0 := hc k _ hy 0 _ rfl
      rw [Nat.add_zero, Nat.mul_one] at z0
      have HN := Lib.hid (HA.out.sn y (List.mem_of_getElem? hy))
      have HY := Lib.hid hy
      have d1 : (0 : Int) ≤ k := by omega
      have d2 : (k : Int) < n1 := by omega
      have e1 : wrap64 ((k : Int) + 1) = (k : Int) + 1 := by have := HXX.out; unfold wrap64; omega
      have HK := Lib.hid hk
      clear hc hy hk
      cases okv with
      | false =>
        have HX := Lib.hid (st1_0 HY.out HS.out)
        go_wp2_with fail
        go_roundg (n1 - (k + 1))
        case rel => exact ⟨k + 1, false, by have := HK.out; omega, rfl, by go_num, HX.out, fun h => absurd h (by decide), HM.out⟩
        case measure => have := HK.out; omega
      | true =>
        have HM4 := HM
        have HBK4 := Lib.hid (HBK.out rfl)
        rcases Bool.eq_false_or_eq_true (rightS y) with hr | hr
        · have HRR := Lib.hid hr
          clear hr
          go_wp2_with fail
          skip
          refine (right_to true y _ HN.out HRR.out).mono ?_
          rintro e w5 ⟨rfl, hb5⟩
          have HM5 := Lib.hid (HM4.out.step hb5)
          have HBK5 := Lib.hid (HBK4.out.below hb5)
          clear hb5
          rcases Bool.eq_false_or_eq_true (hasN (L.se.l.take k) y) with hh | hh
          · have HX := Lib.hid (st1_b HY.out HS.out (okNm_t hh))
            have HH := Lib.hid (hasN_iff.1 hh)
            clear hh
            go_wp2_with fail
            refine (fresh_no gb r _ y _ _ HBK5.out HH.out).mono ?_
            rintro e w6 ⟨rfl, rfl⟩
            go_wp2_with fail
            go_roundg (n1 - (k + 1))
            case rel => exact ⟨k + 1, false, by have := HK.out; omega, rfl, by go_num, HX.out, fun h => absurd h (by decide), HM5.out⟩
            case measure => have := HK.out; omega
          · have HO := Lib.hid (okNm_y HRR.out hh)
            have HH := Lib.hid (hasN_no hh)
            clear hh
            go_wp2_with fail
            refine (fresh_yes gb r _ y _ _ HBK5.out HH.out).mono ?_
            rintro e w6 ⟨rfl, hbk6, ho6⟩
            have HM6 := Lib.hid (HM5.out.only ho6)
            have HBK6 : Hid (BookAt w6 gb r (L.se.l.take (k + 1))) := Lib.hid (take_id HY.out ▸ hbk6)
            have HX := Lib.hid (st1_b HY.out HS.out HO.out)
            clear hbk6 ho6
            go_wp2_with fail
            go_roundg (n1 - (k + 1))
            case rel => exact ⟨k + 1, true, by have := HK.out; omega, rfl, by go_num, HX.out, fun _ => HBK6.out, HM6.out⟩
            case measure => have := HK.out; omega
        · have HX := Lib.hid (st1_b HY.out HS.out (okNm_r hr))
          have HRR := Lib.hid hr
          clear hr
          go_wp2_with fail
          skip
          refine (right_to false y _ HN.out HRR.out).mono ?_
          rintro e w5 ⟨rfl, hb5⟩
          have HM5 := Lib.hid (HM4.out.step hb5)
          clear hb5
          go_wp2_with fail
          go_roundg (n1 - (k + 1))
          case rel => exact ⟨k + 1, false, by have := HK.out; omega, rfl, by go_num, HX.out, fun h => absurd h (by decide), HM5.out⟩
          case measure => have := HK.out; omega
    · have hkn : n1 = k := by omega
      subst hkn
      have hfull : L.se.l.take n1 = L.se.l := List.take_of_length_le (by rw [N1.out]; exact Nat.le_refl _)
      rw [hfull] at HS HBK
      clear hfull
      obtain ⟨wq2, hwq⟩ : ∃ W, W = wr := ⟨_, rfl⟩
      rw [← hwq] at HM HBK ⊢
      clear hwq
      rw [n1_eq] at HBK
      obtain ⟨A1, hA1⟩ : ∃ A, okv = A := ⟨_, rfl⟩
      rw [hA1] at HS HBK ⊢
      have HS1 := HS
      clear HS hA1
      obtain ⟨l0, l1, l2, l3⟩ : wq2.cell? ⟨gl, 0, none⟩ = some (.slice a1 n1 c1) ∧ wq2.cell? ⟨gl, 1, none⟩ = some (.slice a2 n2 c2) ∧ wq2.cell? ⟨gl, 2, none⟩ = some (.slice a3 n3 c3) ∧ wq2.cell? ⟨gl, 3, none⟩ = some (.slice a4 n4 c4) := by
        obtain ⟨v1, v2, v3, v4⟩ := HV.out
        rw [← v1, ← v2, ← v3, ← v4]
        have q := HM.out.lay
        exact ⟨blk_cell q 0 _ rfl, blk_cell q 1 _ rfl, blk_cell q 2 _ rfl, blk_cell q 3 _ rfl⟩
      go_wp2_with fail
      clear l0 l1 l2 l3
      go_loopg [8, 11, 12, 70] n2 (fun g ok _ _ i wr => ∃ (k : Nat) (okv : Bool), k + g = n2 ∧ ok = .bool okv ∧ i = .int .i64 (k : Int) ∧ (A1 && ptsFrom L.n1 n1 (L.po.l.take k)) = okv ∧ (okv = true → BookAt wr gb r (L.n1 ++ (L.po.l.take k).map (·.1))) ∧ MyAt w wr gl gb r L)
      case atStart => exact ⟨0, A1, by omega, rfl, rfl, by rw [List.take_zero, pts_nil, Bool.and_true], by rw [List.take_zero, List.map_nil, List.append_nil]; exact HBK.out, HM.out⟩
      case round =>
        obtain ⟨k, okv, hk, rfl, rfl, hst, hbk, hM⟩ := hrel
        clear HM HBK
        have HM := Lib.hid hM
        have HS := Lib.hid hst
        have HBK := Lib.hid hbk
        clear hst hbk hM
        by_cases hlt : k < n2
        · obtain ⟨y, hy⟩ : ∃ y, L.po.l[k]? = some y := ⟨_, List.getElem?_eq_getElem (by rw [N2.out]; exact hlt)⟩
          rcases R2.out.below HM.out.below with hnil | ⟨xb, off, rfl, hc⟩
          · rw [hnil] at hy; simp at hy
          obtain ⟨y0, y1⟩ := y
          have z0 := hc k _ hy 0 _ rfl
          have z1 := hc k _ hy 1 _ rfl
          rw [Nat.add_zero] at z0
          have HN := Lib.hid (HA.out.pn _ (List.mem_of_getElem? hy))
          dsimp only at z0 z1 HN
          have HY := Lib.hid hy
          have d1 : (0 : Int) ≤ k := by omega
          have d2 : (k : Int) < n2 := by omega
          have e1 : wrap64 ((k : Int) + 1) = (k : Int) + 1 := by have := HXX.out; unfold wrap64; omega
          have HK := Lib.hid hk
          clear hc hy hk
          cases okv with
          | false =>
            have HX := Lib.hid (st2_0 HY.out HS.out)
            go_wp2_with fail
            go_roundg (n2 - (k + 1))
            case rel => exact ⟨k + 1, false, by have := HK.out; omega, rfl, by go_num, HX.out, fun h => absurd h (by decide), HM.out.step (below1 _ _)⟩
            case measure => have := HK.out; omega
          | true =>
            have hb4 := below1 wr (.cells #[.string y0, .int .i64 y1] 51)
            have HM4 := Lib.hid (HM.out.step hb4)
            have HBK4 := Lib.hid ((HBK.out rfl).below hb4)
            have hk4 : (wr.alloc (.cells #[.string y0, .int .i64 y1] 51)).heap[wr.heap.size]? = some (.cells #[.string y0, .int .i64 y1] 51) := alloc1 wr _ (Below.refl _ _)
            have HK4 := Lib.hid hk4
            have HGX := Lib.hid (show wr.heap.size ≠ r by have := HM.out.o3; have := HM.out.o4; omega)
            obtain ⟨gx, hgx⟩ : ∃ g, g = wr.heap.size := ⟨_, rfl⟩
            rw [← hgx] at HK4 HGX
            have HGG := Lib.hid hgx
            clear hb4 hk4 hgx
            rcases Bool.eq_false_or_eq_true (rightS y0) with hr | hr
            · have HRR := Lib.hid hr
              clear hr
              go_wp2_with fail
              rw [← HGG.out]
              refine (right_to true y0 _ HN.out HRR.out).mono ?_
              rintro e w5 ⟨rfl, hb5⟩
              have HM5 := Lib.hid (HM4.out.step hb5)
              have HBK5 := Lib.hid (HBK4.out.below hb5)
              have HK5 := Lib.hid (blk_keep hb5 HK4.out)
              clear hb5
              have k0 := blk_cell HK5.out 0 _ rfl
              have k1 := blk_cell HK5.out 1 _ rfl
              rcases Bool.eq_false_or_eq_true (hasN (L.n1 ++ (L.po.l.take k).map (·.1)) y0) with hh | hh
              · have HX := Lib.hid (st2_n (A := A1) (pre := L.n1) (n := n1) HY.out (okNm_t hh))
                have HH := Lib.hid (hasN_iff.1 hh)
                clear hh
                go_wp2_with fail
                refine (fresh_no gb r _ y0 _ _ HBK5.out HH.out).mono ?_
                rintro e w6 ⟨rfl, rfl⟩
                go_wp2_with fail
                go_roundg (n2 - (k + 1))
                case rel => exact ⟨k + 1, false, by have := HK.out; omega, rfl, by go_num, HX.out, fun h => absurd h (by decide), HM5.out⟩
                case measure => have := HK.out; omega
              · have HO := Lib.hid (okNm_y HRR.out hh)
                have HH := Lib.hid (hasN_no hh)
                clear hh
                go_wp2_with fail
                refine (fresh_yes gb r _ y0 _ _ HBK5.out HH.out).mono ?_
                rintro e w6 ⟨rfl, hbk6, ho6⟩
                have HM6 := Lib.hid (HM5.out.only ho6)
                have HK6 := Lib.hid (ho6.keep HGX.out HK5.out)
                have HBK6 : Hid (BookAt w6 gb r (L.n1 ++ (L.po.l.take (k + 1)).map (·.1))) := Lib.hid (by rw [take_names HY.out, ← List.append_assoc]; exact hbk6)
                clear hbk6 ho6
                clear k0 k1
                have k0 := blk_cell HK6.out 0 _ rfl
                have k1 := blk_cell HK6.out 1 _ rfl
                obtain ⟨D, hD⟩ : ∃ D, decide (0 ≤ y1 ∧ y1 < (n1 : Int)) = D := ⟨_, rfl⟩
                have HKK : Hid (∀ (W : World) (g : Nat), W.heap[g]? = some (.cells #[.int .i64 y1] 3) → Calls Try.prog 36 #[.int .i64 (n1 : Int), .slice (some ⟨g, 0, none⟩) 1 1] W fun e w' => e = .returned (.bool D) ∧ W = w') := Lib.hid (fun W g h => hD ▸ one_below n1 y1 W g 3 (0, 0) h)
                have HD := Lib.hid hD
                clear hD
                have HM7 := Lib.hid (HM6.out.step (below1 w6 (.cells #[.int .i64 y1] 3)))
                have HBK7 := Lib.hid (HBK6.out.below (below1 w6 (.cells #[.int .i64 y1] 3)))
                have HK7 := Lib.hid (blk_keep (below1 w6 (.cells #[.int .i64 y1] 3)) HK6.out)
                go_wp2_with fail
                refine (HKK.out _ _ (alloc1 w6 _ (Below.refl _ _))).mono ?_
                rintro e w7 ⟨rfl, rfl⟩
                have HX := Lib.hid (st2_b HY.out HS.out HO.out HD.out)
                go_wp2_with fail
                go_roundg (n2 - (k + 1))
                case rel => exact ⟨k + 1, D, by have := HK.out; omega, rfl, by go_num, HX.out, fun _ => HBK7.out, HM7.out⟩
                case measure => have := HK.out; omega
            · have HX := Lib.hid (st2_n (A := A1) (pre := L.n1) (n := n1) HY.out (okNm_r hr))
              have HRR := Lib.hid hr
              clear hr
              go_wp2_with fail
              rw [← HGG.out]
              refine (right_to false y0 _ HN.out HRR.out).mono ?_
              rintro e w5 ⟨rfl, hb5⟩
              have HM5 := Lib.hid (HM4.out.step hb5)
              clear hb5
              go_wp2_with fail
              go_roundg (n2 - (k + 1))
              case rel => exact ⟨k + 1, false, by have := HK.out; omega, rfl, by go_num, HX.out, fun h => absurd h (by decide), HM5.out⟩
              case measure => have := HK.out; omega
        · have hkn : n2 = k := by omega
          subst hkn
          have hfull : L.po.l.take n2 = L.po.l := List.take_of_length_le (by rw [N2.out]; exact Nat.le_refl _)
          rw [hfull] at HS HBK
          clear hfull
          obtain ⟨wq3, hwq⟩ : ∃ W, W = wr := ⟨_, rfl⟩
          rw [← hwq] at HM HBK ⊢
          clear hwq
          rw [n2_eq] at HBK
          obtain ⟨A2, hA2⟩ : ∃ A, okv = A := ⟨_, rfl⟩
          rw [hA2] at HS HBK ⊢
          have HS2 := HS
          clear HS hA2
          obtain ⟨l0, l1, l2, l3⟩ : wq3.cell? ⟨gl, 0, none⟩ = some (.slice a1 n1 c1) ∧ wq3.cell? ⟨gl, 1, none⟩ = some (.slice a2 n2 c2) ∧ wq3.cell? ⟨gl, 2, none⟩ = some (.slice a3 n3 c3) ∧ wq3.cell? ⟨gl, 3, none⟩ = some (.slice a4 n4 c4) := by
            obtain ⟨v1, v2, v3, v4⟩ := HV.out
            rw [← v1, ← v2, ← v3, ← v4]
            have q := HM.out.lay
            exact ⟨blk_cell q 0 _ rfl, blk_cell q 1 _ rfl, blk_cell q 2 _ rfl, blk_cell q 3 _ rfl⟩
          go_wp2_with fail
          clear l0 l1 l2 l3
          go_loopg [8, 13, 14, 100] n3 (fun g ok _ _ i wr => ∃ (k : Nat) (okv : Bool), k + g = n3 ∧ ok = .bool okv ∧ i = .int .i64 (k : Int) ∧ (A2 && ptsFrom L.n2 n1 (L.sg.l.take k)) = okv ∧ (okv = true → BookAt wr gb r (L.n2 ++ (L.sg.l.take k).map (·.1))) ∧ MyAt w wr gl gb r L)
          case atStart => exact ⟨0, A2, by omega, rfl, rfl, by rw [List.take_zero, pts_nil, Bool.and_true], by rw [List.take_zero, List.map_nil, List.append_nil]; exact HBK.out, HM.out⟩
          case round =>
            obtain ⟨k, okv, hk, rfl, rfl, hst, hbk, hM⟩ := hrel
            clear HM HBK
            have HM := Lib.hid hM
            have HS := Lib.hid hst
            have HBK := Lib.hid hbk
            clear hst hbk hM
            by_cases hlt : k < n3
            · obtain ⟨y, hy⟩ : ∃ y, L.sg.l[k]? = some y := ⟨_, List.getElem?_eq_getElem (by rw [N3.out]; exact hlt)⟩
              rcases R3.out.below HM.out.below with hnil | ⟨xb, off, rfl, hc⟩
              · rw [hnil] at hy; simp at hy
              obtain ⟨y0, y1⟩ := y
              have z0 := hc k _ hy 0 _ rfl
              have z1 := hc k _ hy 1 _ rfl
              rw [Nat.add_zero] at z0
              have HN := Lib.hid (HA.out.gn _ (List.mem_of_getElem? hy))
              dsimp only at z0 z1 HN
              have HY := Lib.hid hy
              have d1 : (0 : Int) ≤ k := by omega
              have d2 : (k : Int) < n3 := by omega
              have e1 : wrap64 ((k : Int) + 1) = (k : Int) + 1 := by have := HXX.out; unfold wrap64; omega
              have HK := Lib.hid hk
              clear hc hy hk
              cases okv with
              | false =>
                have HX := Lib.hid (st2_0 HY.out HS.out)
                go_wp2_with fail
                go_roundg (n3 - (k + 1))
                case rel => exact ⟨k + 1, false, by have := HK.out; omega, rfl, by go_num, HX.out, fun h => absurd h (by decide), HM.out.step (below1 _ _)⟩
                case measure => have := HK.out; omega
              | true =>
                have hb4 := below1 wr (.cells #[.string y0, .int .i64 y1] 55)
                have HM4 := Lib.hid (HM.out.step hb4)
                have HBK4 := Lib.hid ((HBK.out rfl).below hb4)
                have hk4 : (wr.alloc (.cells #[.string y0, .int .i64 y1] 55)).heap[wr.heap.size]? = some (.cells #[.string y0, .int .i64 y1] 55) := alloc1 wr _ (Below.refl _ _)
                have HK4 := Lib.hid hk4
                have HGX := Lib.hid (show wr.heap.size ≠ r by have := HM.out.o3; have := HM.out.o4; omega)
                obtain ⟨gx, hgx⟩ : ∃ g, g = wr.heap.size := ⟨_, rfl⟩
                rw [← hgx] at HK4 HGX
                have HGG := Lib.hid hgx
                clear hb4 hk4 hgx
                rcases Bool.eq_false_or_eq_true (rightS y0) with hr | hr
                · have HRR := Lib.hid hr
                  clear hr
                  go_wp2_with fail
                  rw [← HGG.out]
                  refine (right_to true y0 _ HN.out HRR.out).mono ?_
                  rintro e w5 ⟨rfl, hb5⟩
                  have HM5 := Lib.hid (HM4.out.step hb5)
                  have HBK5 := Lib.hid (HBK4.out.below hb5)
                  have HK5 := Lib.hid (blk_keep hb5 HK4.out)
                  clear hb5
                  have k0 := blk_cell HK5.out 0 _ rfl
                  have k1 := blk_cell HK5.out 1 _ rfl
                  rcases Bool.eq_false_or_eq_true (hasN (L.n2 ++ (L.sg.l.take k).map (·.1)) y0) with hh | hh
                  · have HX := Lib.hid (st2_n (A := A2) (pre := L.n2) (n := n1) HY.out (okNm_t hh))
                    have HH := Lib.hid (hasN_iff.1 hh)
                    clear hh
                    go_wp2_with fail
                    refine (fresh_no gb r _ y0 _ _ HBK5.out HH.out).mono ?_
                    rintro e w6 ⟨rfl, rfl⟩
                    go_wp2_with fail
                    go_roundg (n3 - (k + 1))
                    case rel => exact ⟨k + 1, false, by have := HK.out; omega, rfl, by go_num, HX.out, fun h => absurd h (by decide), HM5.out⟩
                    case measure => have := HK.out; omega
                  · have HO := Lib.hid (okNm_y HRR.out hh)
                    have HH := Lib.hid (hasN_no hh)
                    clear hh
                    go_wp2_with fail
                    refine (fresh_yes gb r _ y0 _ _ HBK5.out HH.out).mono ?_
                    rintro e w6 ⟨rfl, hbk6, ho6⟩
                    have HM6 := Lib.hid (HM5.out.only ho6)
                    have HK6 := Lib.hid (ho6.keep HGX.out HK5.out)
                    have HBK6 : Hid (BookAt w6 gb r (L.n2 ++ (L.sg.l.take (k + 1)).map (·.1))) := Lib.hid (by rw [take_names HY.out, ← List.append_assoc]; exact hbk6)
                    clear hbk6 ho6
                    clear k0 k1
                    have k0 := blk_cell HK6.out 0 _ rfl
                    have k1 := blk_cell HK6.out 1 _ rfl
                    obtain ⟨D, hD⟩ : ∃ D, decide (0 ≤ y1 ∧ y1 < (n1 : Int)) = D := ⟨_, rfl⟩
                    have HKK : Hid (∀ (W : World) (g : Nat), W.heap[g]? = some (.cells #[.int .i64 y1] 3) → Calls Try.prog 36 #[.int .i64 (n1 : Int), .slice (some ⟨g, 0, none⟩) 1 1] W fun e w' => e = .returned (.bool D) ∧ W = w') := Lib.hid (fun W g h => hD ▸ one_below n1 y1 W g 3 (0, 0) h)
                    have HD := Lib.hid hD
                    clear hD
                    have HM7 := Lib.hid (HM6.out.step (below1 w6 (.cells #[.int .i64 y1] 3)))
                    have HBK7 := Lib.hid (HBK6.out.below (below1 w6 (.cells #[.int .i64 y1] 3)))
                    have HK7 := Lib.hid (blk_keep (below1 w6 (.cells #[.int .i64 y1] 3)) HK6.out)
                    go_wp2_with fail
                    refine (HKK.out _ _ (alloc1 w6 _ (Below.refl _ _))).mono ?_
                    rintro e w7 ⟨rfl, rfl⟩
                    have HX := Lib.hid (st2_b HY.out HS.out HO.out HD.out)
                    go_wp2_with fail
                    go_roundg (n3 - (k + 1))
                    case rel => exact ⟨k + 1, D, by have := HK.out; omega, rfl, by go_num, HX.out, fun _ => HBK7.out, HM7.out⟩
                    case measure => have := HK.out; omega
                · have HX := Lib.hid (st2_n (A := A2) (pre := L.n2) (n := n1) HY.out (okNm_r hr))
                  have HRR := Lib.hid hr
                  clear hr
                  go_wp2_with fail
                  rw [← HGG.out]
                  refine (right_to false y0 _ HN.out HRR.out).mono ?_
                  rintro e w5 ⟨rfl, hb5⟩
                  have HM5 := Lib.hid (HM4.out.step hb5)
                  clear hb5
                  go_wp2_with fail
                  go_roundg (n3 - (k + 1))
                  case rel => exact ⟨k + 1, false, by have := HK.out; omega, rfl, by go_num, HX.out, fun h => absurd h (by decide), HM5.out⟩
                  case measure => have := HK.out; omega
            · have hkn : n3 = k := by omega
              subst hkn
              have hfull : L.sg.l.take n3 = L.sg.l := List.take_of_length_le (by rw [N3.out]; exact Nat.le_refl _)
              rw [hfull] at HS HBK
              clear hfull
              obtain ⟨wq4, hwq⟩ : ∃ W, W = wr := ⟨_, rfl⟩
              rw [← hwq] at HM HBK ⊢
              clear hwq
              rw [n3_eq] at HBK
              obtain ⟨A3, hA3⟩ : ∃ A, okv = A := ⟨_, rfl⟩
              rw [hA3] at HS HBK ⊢
              have HS3 := HS
              clear HS hA3
              obtain ⟨l0, l1, l2, l3⟩ : wq4.cell? ⟨gl, 0, none⟩ = some (.slice a1 n1 c1) ∧ wq4.cell? ⟨gl, 1, none⟩ = some (.slice a2 n2 c2) ∧ wq4.cell? ⟨gl, 2, none⟩ = some (.slice a3 n3 c3) ∧ wq4.cell? ⟨gl, 3, none⟩ = some (.slice a4 n4 c4) := by
                obtain ⟨v1, v2, v3, v4⟩ := HV.out
                rw [← v1, ← v2, ← v3, ← v4]
                have q := HM.out.lay
                exact ⟨blk_cell q 0 _ rfl, blk_cell q 1 _ rfl, blk_cell q 2 _ rfl, blk_cell q 3 _ rfl⟩
              go_wp2_with fail
              clear l0 l1 l2 l3
              go_loopg [8, 15, 16, 130] n4 (fun g ok _ _ i wr => ∃ (k : Nat) (okv : Bool), k + g = n4 ∧ ok = .bool okv ∧ i = .int .i64 (k : Int) ∧ (A3 && rtsFrom L.n3 n3 n1 n2 (L.rt.l.take k)) = okv ∧ (okv = true → BookAt wr gb r (L.n3 ++ (L.rt.l.take k).map (·.nm))) ∧ MyAt w wr gl gb r L)
              case atStart => exact ⟨0, A3, by omega, rfl, rfl, by rw [List.take_zero, rts_nil, Bool.and_true], by rw [List.take_zero, List.map_nil, List.append_nil]; exact HBK.out, HM.out⟩
              case round =>
                obtain ⟨k, okv, hk, rfl, rfl, hst, hbk, hM⟩ := hrel
                clear HM HBK
                have HM := Lib.hid hM
                have HS := Lib.hid hst
                have HBK := Lib.hid hbk
                clear hst hbk hM
                by_cases hlt : k < n4
                · obtain ⟨y, hy⟩ : ∃ y, L.rt.l[k]? = some y := ⟨_, List.getElem?_eq_getElem (by rw [N4.out]; exact hlt)⟩
                  rcases R4.out.below HM.out.below with hnil | ⟨xb, off, rfl, hc⟩
                  · rw [hnil] at hy; simp at hy
                  have z0 := hc k _ hy 0 _ rfl
                  have z1 := hc k _ hy 1 _ rfl
                  have z2 := hc k _ hy 2 _ rfl
                  have z3 := hc k _ hy 3 _ rfl
                  have z4 := hc k _ hy 4 _ rfl
                  have z5 := hc k _ hy 5 _ rfl
                  rw [Nat.add_zero] at z0
                  have HR := Lib.hid (HA.out.rn y (List.mem_of_getElem? hy))
                  obtain ⟨nm, sg, ⟨pa, pc, pl⟩, ⟨oa, oc, ol⟩, ⟨va, vc, vl⟩, ⟨fa, fc, fl⟩⟩ := y
                  have HN := Lib.hid HR.out.nm
                  dsimp only at z0 z1 z2 z3 z4 z5 HN
                  obtain ⟨m1, hm1⟩ : ∃ m, pl.length = m := ⟨_, rfl⟩
                  obtain ⟨m2, hm2⟩ : ∃ m, ol.length = m := ⟨_, rfl⟩
                  obtain ⟨m3, hm3⟩ : ∃ m, vl.length = m := ⟨_, rfl⟩
                  obtain ⟨m4, hm4⟩ : ∃ m, fl.length = m := ⟨_, rfl⟩
                  rw [slv2 hm1] at z2
                  rw [slv2 hm2] at z3
                  rw [slv2 hm3] at z4
                  rw [slv2 hm4] at z5
                  have HMM := Lib.hid (And.intro hm1 (And.intro hm2 (And.intro hm3 hm4)))
                  clear hm1 hm2 hm3 hm4
                  have HY := Lib.hid hy
                  have d1 : (0 : Int) ≤ k := by omega
                  have d2 : (k : Int) < n4 := by omega
                  have e1 : wrap64 ((k : Int) + 1) = (k : Int) + 1 := by have := HXX.out; unfold wrap64; omega
                  have HK := Lib.hid hk
                  clear hc hy hk
                  cases okv with
                  | false =>
                    have HX := Lib.hid (st4_0 HY.out HS.out)
                    go_wp2_with fail
                    go_roundg (n4 - (k + 1))
                    case rel => exact ⟨k + 1, false, by have := HK.out; omega, rfl, by go_num, HX.out, fun h => absurd h (by decide), HM.out.step (below1 _ _)⟩
                    case measure => have := HK.out; omega
                  | true =>
                    have hb4 := below1 wr (.cells #[.string nm, .int .i64 sg, .slice pa m1 pc, .slice oa m2 oc, .slice va m3 vc, .slice fa m4 fc] 25)
                    have HM4 := Lib.hid (HM.out.step hb4)
                    have HBK4 := Lib.hid ((HBK.out rfl).below hb4)
                    have hk4 : (wr.alloc (.cells #[.string nm, .int .i64 sg, .slice pa m1 pc, .slice oa m2 oc, .slice va m3 vc, .slice fa m4 fc] 25)).heap[wr.heap.size]? = some (.cells #[.string nm, .int .i64 sg, .slice pa m1 pc, .slice oa m2 oc, .slice va m3 vc, .slice fa m4 fc] 25) := alloc1 wr _ (Below.refl _ _)
                    have HK4 := Lib.hid hk4
                    have HGX := Lib.hid (show wr.heap.size ≠ r by have := HM.out.o3; have := HM.out.o4; omega)
                    obtain ⟨gx, hgx⟩ : ∃ g, g = wr.heap.size := ⟨_, rfl⟩
                    rw [← hgx] at HK4 HGX
                    have HGG := Lib.hid hgx
                    clear hb4 hk4 hgx
                    rcases Bool.eq_false_or_eq_true (rightS nm) with hr | hr
                    · have HRR := Lib.hid hr
                      clear hr
                      go_wp2_with fail
                      rw [← HGG.out]
                      refine (right_to true nm _ HN.out HRR.out).mono ?_
                      rintro e w5 ⟨rfl, hb5⟩
                      have HM5 := Lib.hid (HM4.out.step hb5)
                      have HBK5 := Lib.hid (HBK4.out.below hb5)
                      have HK5 := Lib.hid (blk_keep hb5 HK4.out)
                      clear hb5
                      have k0 := blk_cell HK5.out 0 _ rfl
                      have k1 := blk_cell HK5.out 1 _ rfl
                      have k2 := blk_cell HK5.out 2 _ rfl
                      have k3 := blk_cell HK5.out 3 _ rfl
                      have k4 := blk_cell HK5.out 4 _ rfl
                      have k5 := blk_cell HK5.out 5 _ rfl
                      rcases Bool.eq_false_or_eq_true (hasN (L.n3 ++ (L.rt.l.take k).map (·.nm)) nm) with hh | hh
                      · have HX := Lib.hid (st4_n (A := A3) (pre := L.n3) (G := n3) (S := n1) (P := n2) HY.out (okNm_t hh))
                        have HH := Lib.hid (hasN_iff.1 hh)
                        clear hh
                        go_wp2_with fail
                        refine (fresh_no gb r _ nm _ _ HBK5.out HH.out).mono ?_
                        rintro e w6 ⟨rfl, rfl⟩
                        go_wp2_with fail
                        go_roundg (n4 - (k + 1))
                        case rel => exact ⟨k + 1, false, by have := HK.out; omega, rfl, by go_num, HX.out, fun h => absurd h (by decide), HM5.out⟩
                        case measure => have := HK.out; omega
                      · have HO := Lib.hid (okNm_y HRR.out hh)
                        have HH := Lib.hid (hasN_no hh)
                        clear hh
                        go_wp2_with fail
                        refine (fresh_yes gb r _ nm _ _ HBK5.out HH.out).mono ?_
                        rintro e w6 ⟨rfl, hbk6, ho6⟩
                        have HM6 := Lib.hid (HM5.out.only ho6)
                        have HK6 := Lib.hid (ho6.keep HGX.out HK5.out)
                        have HBK6 : Hid (BookAt w6 gb r (L.n3 ++ (L.rt.l.take (k + 1)).map (·.nm))) := Lib.hid (by rw [take_names HY.out, ← List.append_assoc]; exact hbk6)
                        clear hbk6 ho6
                        clear k0 k1 k2 k3 k4 k5
                        have k0 := blk_cell HK6.out 0 _ rfl
                        have k1 := blk_cell HK6.out 1 _ rfl
                        have k2 := blk_cell HK6.out 2 _ rfl
                        have k3 := blk_cell HK6.out 3 _ rfl
                        have k4 := blk_cell HK6.out 4 _ rfl
                        have k5 := blk_cell HK6.out 5 _ rfl
                        obtain ⟨D, hD⟩ : ∃ D, decide (0 ≤ sg ∧ sg < (n3 : Int)) = D := ⟨_, rfl⟩
                        have HKK : Hid (∀ (W : World) (g : Nat), W.heap[g]? = some (.cells #[.int .i64 sg] 3) → Calls Try.prog 36 #[.int .i64 (n3 : Int), .slice (some ⟨g, 0, none⟩) 1 1] W fun e w' => e = .returned (.bool D) ∧ W = w') := Lib.hid (fun W g h => hD ▸ one_below n3 sg W g 3 (0, 0) h)
                        have HD := Lib.hid hD
                        clear hD
                        have HM7 := Lib.hid (HM6.out.step (below1 w6 (.cells #[.int .i64 sg] 3)))
                        have HBK7 := Lib.hid (HBK6.out.below (below1 w6 (.cells #[.int .i64 sg] 3)))
                        have HK7 := Lib.hid (blk_keep (below1 w6 (.cells #[.int .i64 sg] 3)) HK6.out)
                        cases D with
                        | false =>
                          have HX := Lib.hid (st4_d (A := A3) (pre := L.n3) (S := n1) (P := n2) HY.out HD.out)
                          go_wp2_with fail
                          refine (HKK.out _ _ (alloc1 w6 _ (Below.refl _ _))).mono ?_
                          rintro e w7 ⟨rfl, rfl⟩
                          go_wp2_with fail
                          go_roundg (n4 - (k + 1))
                          case rel => exact ⟨k + 1, false, by have := HK.out; omega, rfl, by go_num, HX.out, fun h => absurd h (by decide), HM7.out⟩
                          case measure => have := HK.out; omega
                        | true =>
                          have HX := Lib.hid (fun (e : Bool) (he : rtB n1 n2 ⟨nm, sg, ⟨pa, pc, pl⟩, ⟨oa, oc, ol⟩, ⟨va, vc, vl⟩, ⟨fa, fc, fl⟩⟩ = e) => st4_b HY.out HS.out HO.out HD.out he)
                          go_upto_region 24 with fail
                          go_wp2_with fail
                          refine (HKK.out _ _ (alloc1 w6 _ (Below.refl _ _))).mono ?_
                          rintro e w7 ⟨rfl, rfl⟩
                          obtain ⟨W7, hW7⟩ : ∃ W, W = w6.alloc (.cells #[.int .i64 sg] 3) := ⟨_, rfl⟩
                          rw [← hW7] at HM7 HBK7 HK7 ⊢
                          clear hW7 HKK
                          clear k0 k1 k2 k3 k4 k5
                          have k0 := blk_cell HK7.out 0 _ rfl
                          have k1 := blk_cell HK7.out 1 _ rfl
                          have k2 := blk_cell HK7.out 2 _ rfl
                          have k3 := blk_cell HK7.out 3 _ rfl
                          have k4 := blk_cell HK7.out 4 _ rfl
                          have k5 := blk_cell HK7.out 5 _ rfl
                          by_cases t1 : (m1 : Int) ≤ 16
                          case neg =>
                            have HE := Lib.hid (HX.out false (rtB_1 (by dsimp only; rw [HMM.out.1]; omega)))
                            go_wp2_with fail
                            go_roundg (n4 - (k + 1))
                            case rel => exact ⟨k + 1, false, by have := HK.out; omega, rfl, by go_num, HE.out, fun h => absurd h (by decide), HM7.out⟩
                            case measure => have := HK.out; omega
                          by_cases t2 : (m3 : Int) ≤ 16
                          case neg =>
                            have HE := Lib.hid (HX.out false (rtB_2 (by dsimp only; rw [HMM.out.2.2.1]; omega)))
                            go_wp2_with fail
                            go_roundg (n4 - (k + 1))
                            case rel => exact ⟨k + 1, false, by have := HK.out; omega, rfl, by go_num, HE.out, fun h => absurd h (by decide), HM7.out⟩
                            case measure => have := HK.out; omega
                          have q1 := Lib.hid (HR.out.pa.row.below HM7.out.below)
                          have q3 := Lib.hid (HR.out.ov.row.below HM7.out.below)
                          dsimp only at q1 q3
                          rcases Bool.eq_false_or_eq_true (belowB n1 pl) with b1 | b1
                          case inr =>
                            have HE := Lib.hid (HX.out false (rtB_3 b1))
                            have B1 := Lib.hid b1
                            clear b1
                            go_wp2_with fail
                            refine (below_to false n1 pa m1 pc pl _ B1.out HMM.out.1 (by omega) q1.out).mono ?_
                            rintro e w8 ⟨rfl, rfl⟩
                            go_wp2_with fail
                            go_roundg (n4 - (k + 1))
                            case rel => exact ⟨k + 1, false, by have := HK.out; omega, rfl, by go_num, HE.out, fun h => absurd h (by decide), HM7.out⟩
                            case measure => have := HK.out; omega
                          have B1 := Lib.hid b1
                          clear b1
                          rcases Bool.eq_false_or_eq_true (belowB n1 vl) with b2 | b2
                          case inr =>
                            have HE := Lib.hid (HX.out false (rtB_4 b2))
                            have B2 := Lib.hid b2
                            clear b2
                            go_wp2_with fail
                            refine (below_to true n1 pa m1 pc pl _ B1.out HMM.out.1 (by omega) q1.out).mono ?_
                            rintro e w8 ⟨rfl, rfl⟩
                            go_wp2_with fail
                            refine (below_to false n1 va m3 vc vl _ B2.out HMM.out.2.2.1 (by omega) q3.out).mono ?_
                            rintro e w8 ⟨rfl, rfl⟩
                            go_wp2_with fail
                            go_roundg (n4 - (k + 1))
                            case rel => exact ⟨k + 1, false, by have := HK.out; omega, rfl, by go_num, HE.out, fun h => absurd h (by decide), HM7.out⟩
                            case measure => have := HK.out; omega
                          have B2 := Lib.hid b2
                          clear b2
                          go_wp2_with fail
                          refine (below_to true n1 pa m1 pc pl _ B1.out HMM.out.1 (by omega) q1.out).mono ?_
                          rintro e w8 ⟨rfl, rfl⟩
                          go_wp2_with fail
                          refine (below_to true n1 va m3 vc vl _ B2.out HMM.out.2.2.1 (by omega) q3.out).mono ?_
                          rintro e w8 ⟨rfl, rfl⟩
                          have HT := Lib.hid (And.intro t1 t2)
                          have M24 := Lib.hid (show m2 ≤ 9223372036854775807 ∧ m4 ≤ 9223372036854775807 by have h2 := HR.out.po.len; have h4 := HR.out.fl.len; have g2 := HR.out.po.cap; have g4 := HR.out.fl.cap; have := HMM.out; dsimp only at h2 h4 g2 g4; unfold maxLen at g2 g4; omega)
                          clear t1 t2
                          rcases Bool.eq_false_or_eq_true (mayB n2 ol) with b3 | b3
                          case inr =>
                            have HE := Lib.hid (HX.out false (rtB_5 b3))
                            have B3 := Lib.hid b3
                            clear b3
                            go_wp2_with fail
                            refine (may_to false n2 oa m2 oc ol _ B3.out HMM.out.2.1 M24.out.1 (HR.out.po.row.below HM7.out.below)).mono ?_
                            rintro e w8 ⟨rfl, hb8⟩
                            have HM8 := Lib.hid (HM7.out.step hb8)
                            clear hb8
                            go_wp2_with fail
                            go_roundg (n4 - (k + 1))
                            case rel => exact ⟨k + 1, false, by have := HK.out; omega, rfl, by go_num, HE.out, fun h => absurd h (by decide), HM8.out⟩
                            case measure => have := HK.out; omega
                          have B3 := Lib.hid b3
                          clear b3
                          go_wp2_with fail
                          refine (may_to true n2 oa m2 oc ol _ B3.out HMM.out.2.1 M24.out.1 (HR.out.po.row.below HM7.out.below)).mono ?_
                          rintro e w8 ⟨rfl, hb8⟩
                          have HM8 := Lib.hid (HM7.out.step hb8)
                          have HBK8 := Lib.hid (HBK7.out.below hb8)
                          have HK8 := Lib.hid (blk_keep hb8 HK7.out)
                          clear hb8
                          clear k0 k1 k2 k3 k4 k5
                          have k0 := blk_cell HK8.out 0 _ rfl
                          have k1 := blk_cell HK8.out 1 _ rfl
                          have k2 := blk_cell HK8.out 2 _ rfl
                          have k3 := blk_cell HK8.out 3 _ rfl
                          have k4 := blk_cell HK8.out 4 _ rfl
                          have k5 := blk_cell HK8.out 5 _ rfl
                          rcases Bool.eq_false_or_eq_true (mayB n2 fl) with b4 | b4
                          case inr =>
                            have HE := Lib.hid (HX.out false (rtB_6 b4))
                            have B4 := Lib.hid b4
                            clear b4
                            go_wp2_with fail
                            refine (may_to false n2 fa m4 fc fl _ B4.out HMM.out.2.2.2 M24.out.2 (HR.out.fl.row.below HM8.out.below)).mono ?_
                            rintro e w9 ⟨rfl, hb9⟩
                            have HM9 := Lib.hid (HM8.out.step hb9)
                            clear hb9
                            go_wp2_with fail
                            go_roundg (n4 - (k + 1))
                            case rel => exact ⟨k + 1, false, by have := HK.out; omega, rfl, by go_num, HE.out, fun h => absurd h (by decide), HM9.out⟩
                            case measure => have := HK.out; omega
                          have HE := Lib.hid (HX.out true (rtB_7 (by dsimp only; rw [HMM.out.1]; have := HT.out; omega) (by dsimp only; rw [HMM.out.2.2.1]; have := HT.out; omega) B1.out B2.out B3.out b4))
                          have B4 := Lib.hid b4
                          clear b4
                          go_wp2_with fail
                          refine (may_to true n2 fa m4 fc fl _ B4.out HMM.out.2.2.2 M24.out.2 (HR.out.fl.row.below HM8.out.below)).mono ?_
                          rintro e w9 ⟨rfl, hb9⟩
                          have HM9 := Lib.hid (HM8.out.step hb9)
                          have HBK9 := Lib.hid (HBK8.out.below hb9)
                          clear hb9
                          go_wp2_with fail
                          go_roundg (n4 - (k + 1))
                          case rel => exact ⟨k + 1, true, by have := HK.out; omega, rfl, by go_num, HE.out, fun _ => HBK9.out, HM9.out⟩
                          case measure => have := HK.out; omega
                    · have HX := Lib.hid (st4_n (A := A3) (pre := L.n3) (G := n3) (S := n1) (P := n2) HY.out (okNm_r hr))
                      have HRR := Lib.hid hr
                      clear hr
                      go_wp2_with fail
                      rw [← HGG.out]
                      refine (right_to false nm _ HN.out HRR.out).mono ?_
                      rintro e w5 ⟨rfl, hb5⟩
                      have HM5 := Lib.hid (HM4.out.step hb5)
                      clear hb5
                      go_wp2_with fail
                      go_roundg (n4 - (k + 1))
                      case rel => exact ⟨k + 1, false, by have := HK.out; omega, rfl, by go_num, HX.out, fun h => absurd h (by decide), HM5.out⟩
                      case measure => have := HK.out; omega
                · have hkn : n4 = k := by omega
                  subst hkn
                  have hfull : L.rt.l.take n4 = L.rt.l := List.take_of_length_le (by rw [N4.out]; exact Nat.le_refl _)
                  rw [hfull] at HS HBK
                  clear hfull
                  obtain ⟨wq5, hwq⟩ : ∃ W, W = wr := ⟨_, rfl⟩
                  rw [← hwq] at HM HBK ⊢
                  clear hwq
                  go_wp2_with fail
                  go_ret
                  have hE : mayS L = okv := by
                    refine may_end (A2 := A2) (A3 := A3) HSM.out ?_ ?_ ?_
                    · rw [N1.out, HS1.out]; exact HS2.out
                    · rw [N1.out]; exact HS3.out
                    · rw [N1.out, N2.out, N3.out]; exact HS.out
                  exact ⟨by rw [hE]; rfl, HM.out.below⟩
end Go.Proofs.Ytdkcpejlojdijaa
