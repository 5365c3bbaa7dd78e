/-
 Layer 10: the document's Tidy.
-/
import Derived.Test.YtjienmjpfklgeaaIxT
import Derived.Test.YtjienmjpfklgeaaIxLa
namespace Go.Proofs.Ytjienmjpfklgeaa
open Go.RowKit
set_option maxRecDepth 100000
theorem built_2 (x y : Nat) : Try.prog.built 32 [(0, .int .u64 (x : Int)), (4, .int .u32 (y : Int))] = some (stL ⟨x, 0, 0, fun _ => 0, y⟩).toArray := by
 unfold stL tmL
 kernel_rfl
/-- tidied, but timers from k on are not there yet -/
def tdF (N P k : Nat) (s : St) : Nat → Nat := fun n => if n < k then (tidyS N P s).tm n else 0
def tdS (N P k : Nat) (s : St) : St := ⟨s.lk &&& (pw N - 1), s.us &&& (s.lk &&& (pw N - 1)), s.ca &&& (s.lk &&& (pw N - 1)), tdF N P k s, s.pt &&& (pw P - 1)⟩
theorem td_ca (N P : Nat) (s : St) : (tidyS N P s).ca = s.ca &&& (s.lk &&& (pw N - 1)) := rfl
theorem td_tm (N P : Nat) (s : St) (n : Nat) : (tidyS N P s).tm n = if hasBit (s.ca &&& (s.lk &&& (pw N - 1))) n then min (s.tm n) 20 else 0 := rfl
theorem tds_with {N P k k' : Nat} {s : St} {f : Nat → Nat} (h : tdF N P k' s = f) : tdS N P k' s = { tdS N P k s with tm := f } := by unfold tdS; rw [h]
theorem tds_zero (N P : Nat) (s : St) : tdS N P 0 s = ⟨s.lk &&& (pw N - 1), s.us &&& (s.lk &&& (pw N - 1)), s.ca &&& (s.lk &&& (pw N - 1)), fun _ => 0, s.pt &&& (pw P - 1)⟩ := by
 have h : tdF N P 0 s = fun _ => 0 := by funext n; unfold tdF; rw [if_neg (by omega)]
 unfold tdS
 rw [h]
theorem tds_no {N P k : Nat} {s : St} (h : hasBit (s.ca &&& (s.lk &&& (pw N - 1))) k = false) : tdS N P (k + 1) s = tdS N P k s := by
 have e : tdF N P (k + 1) s = tdF N P k s := by
  funext n
  unfold tdF
  by_cases h1 : n < k
  ·rw [if_pos h1, if_pos (by omega)]
  ·rw [if_neg h1]
   by_cases h2 : n = k
   ·subst h2; rw [if_pos (by omega), td_tm, h]; rfl
   ·rw [if_neg (by omega)]
 unfold tdS
 rw [e]
theorem tds_tm (N P k : Nat) (s : St) : (tdS N P k s).tm = tdF N P k s := rfl
theorem tds_yes {N P k : Nat} {s : St} (h : hasBit (s.ca &&& (s.lk &&& (pw N - 1))) k = true) : tdS N P (k + 1) s = { tdS N P k s with tm := upd (tdS N P k s).tm k (min (s.tm k) 20) } := by
 refine tds_with ?_
 rw [tds_tm]
 funext n
 unfold upd tdF
 by_cases h2 : n = k
 ·subst h2; rw [if_pos (by omega), if_pos rfl, td_tm, h]; rfl
 ·rw [if_neg h2]
  by_cases h1 : n < k
  ·rw [if_pos (by omega), if_pos h1]
  ·rw [if_neg (by omega), if_neg h1]
theorem tds_all (N P : Nat) (s : St) : tdS N P N s = tidyS N P s := by
 have h : tdF N P N s = (tidyS N P s).tm := by
  funext n
  unfold tdF
  by_cases h1 : n < N
  ·rw [if_pos h1]
  ·rw [if_neg h1, td_tm]
   have : hasBit (s.ca &&& (s.lk &&& (pw N - 1))) n = false := by rw [hasBit_test, Nat.testBit_and, low_bit]; simp [h1]
   rw [this]; rfl
 unfold tdS
 rw [h]
 rfl
theorem tds_cai (N P k : Nat) (s : St) : (tdS N P k s).ca = s.ca &&& (s.lk &&& (pw N - 1)) := rfl
theorem pw_le64 {n : Nat} (h : n ≤ 64) : pw n - 1 < 18446744073709551616 := by
 have : pw n ≤ 2 ^ 64 := Nat.pow_le_pow_right (by omega) h
 have h0 : 0 < pw n := pw_pos n
 omega
theorem pw_le32 {n : Nat} (h : n ≤ 32) : pw n - 1 < 4294967296 := by
 have : pw n ≤ 2 ^ 32 := Nat.pow_le_pow_right (by omega) h
 have h0 : 0 < pw n := pw_pos n
 omega
attribute [local irreducible] Sl.v hasBit pw withBit woBit cyL stL stV tmL freeS ndBad maySet ptL setS mayCan canS canD nedS flipB mayMov movS comG relS rouS proS tidyS comsG rousS prosS nextG outS lnOk rightK rgtS eqS Mc.tb upd mayS checkS sideN
attribute [local irreducible] tbL rwL secOf cofL Rt.tr Rt.nd conflictS pairS formedS
attribute [local irreducible] mskS
attribute [local irreducible] tdS

set_option maxHeartbeats 16000000 in
theorem dtidy_is (L : Lay) (s : St) (w : World) (hL : LayAt w L) (hc : (checkS L).1 = 0) (hs : s.ok) :
 Calls Try.prog 19 #[.agg #[L.se.v, L.po.v, L.sg.v, L.rt.v], .agg (stL s).toArray] w fun e w' => e = .returned (.agg (stL (tidyS L.rt.l.length L.po.l.length s)).toArray) ∧ Below w.heap.size w w' := by
 have HMAY : Hid (mayS L = true) := Lib.hid (cs_zero hc)
 have HS4 : Hid (L.rt.l.length ≤ 64) := Lib.hid (mayS_small (cs_zero hc)).2.2.2
 have HCK := Lib.hid hc
 have HS2 : Hid (L.po.l.length ≤ 32) := Lib.hid (mayS_small (cs_zero hc)).2.1
 obtain ⟨n1, hn1⟩ : ∃ n, L.se.l.length = n := ⟨_, rfl⟩
 obtain ⟨n2, hn2⟩ : ∃ n, L.po.l.length = n := ⟨_, rfl⟩
 obtain ⟨n3, hn3⟩ : ∃ n, L.sg.l.length = n := ⟨_, rfl⟩
 obtain ⟨n4, hn4⟩ : ∃ n, L.rt.l.length = n := ⟨_, rfl⟩
 have HLW := Lib.hid hL
 have HN1 := Lib.hid hn1
 have HN2 := Lib.hid hn2
 have HN3 := Lib.hid hn3
 have HN4 := Lib.hid hn4
 rw [hn4] at HS4
 rw [hn2] at HS2
 have KF4 : Hid (∀ V, Calls Try.prog 43 #[.int .i64 (n4 : Int)] V fun e w' => e = .returned (.int .u64 ((pw n4 - 1 : Nat) : Int)) ∧ Below V.heap.size V w') := Lib.hid (fun V => (first_any n4 n4 V (by have := HS4.out; omega)).mono (fun _ _ h => ⟨h.1, h.2 ▸ Below.refl _ _⟩))
 have KF2 : Hid (∀ V, Calls Try.prog 43 #[.int .i64 (n2 : Int)] V fun e w' => e = .returned (.int .u64 ((pw n2 - 1 : Nat) : Int)) ∧ Below V.heap.size V w') := Lib.hid (fun V => (first_any n2 n2 V (by have := HS2.out; omega)).mono (fun _ _ h => ⟨h.1, h.2 ▸ Below.refl _ _⟩))
 have HW2 : Hid (IntKind.u32.wrap ((pw n2 - 1 : Nat) : Int) = ((pw n2 - 1 : Nat) : Int)) := Lib.hid (by have := pw_le32 HS2.out; rw [IntKind.wrap_u32]; omega)
 have HT0 : Hid (tdS n4 n2 0 s = ⟨s.lk &&& (pw n4 - 1), s.us &&& (s.lk &&& (pw n4 - 1)), s.ca &&& (s.lk &&& (pw n4 - 1)), fun _ => 0, s.pt &&& (pw n2 - 1)⟩) := Lib.hid (tds_zero n4 n2 s)
 have hal : s.lk &&& (pw n4 - 1) < 18446744073709551616 := Nat.lt_of_le_of_lt Nat.and_le_left hs.lk
 have HA0 : Hid (bits .and .u64 (s.lk : Int) ((pw n4 - 1 : Nat) : Int) = ((s.lk &&& (pw n4 - 1) : Nat) : Int)) := Lib.hid (u64_and_nat _ _ hs.lk (pw_le64 HS4.out))
 have HP0 : Hid (bits .and .u32 (s.pt : Int) ((pw n2 - 1 : Nat) : Int) = ((s.pt &&& (pw n2 - 1) : Nat) : Int)) := Lib.hid (u32_and_nat _ _ hs.pt (pw_le32 HS2.out))
 obtain ⟨P0, hP0⟩ : ∃ P, s.pt &&& (pw n2 - 1) = P := ⟨_, rfl⟩
 have HCE0 : Hid (s.ca &&& (s.lk &&& (pw n4 - 1)) = s.ca &&& (s.lk &&& (pw n4 - 1))) := Lib.hid rfl
 obtain ⟨A0, hA0⟩ : ∃ P, s.lk &&& (pw n4 - 1) = P := ⟨_, rfl⟩
 rw [hA0] at HA0 HT0 hal
 rw [hP0] at HP0 HT0
 have HU0 : Hid (bits .and .u64 (s.us : Int) (A0 : Int) = ((s.us &&& A0 : Nat) : Int)) := Lib.hid (u64_and_nat _ _ hs.us hal)
 have HC0 : Hid (bits .and .u64 (s.ca : Int) (A0 : Int) = ((s.ca &&& A0 : Nat) : Int)) := Lib.hid (u64_and_nat _ _ hs.ca hal)
 have HCL : Hid (s.ca &&& A0 < 18446744073709551616) := Lib.hid (Nat.lt_of_le_of_lt Nat.and_le_left hs.ca)
 obtain ⟨U0, hU0⟩ : ∃ P, s.us &&& A0 = P := ⟨_, rfl⟩
 obtain ⟨C0, hC0⟩ : ∃ P, s.ca &&& A0 = P := ⟨_, rfl⟩
 rw [hU0] at HU0 HT0
 rw [hC0] at HC0 HT0 HCL
 have HCE : Hid (s.ca &&& (s.lk &&& (pw n4 - 1)) = C0) := Lib.hid (by rw [hA0]; exact hC0)
 rw [hn4, hn2]
 rw [slv hn1, slv hn2, slv hn3, slv hn4]
 clear hn1 hn2 hn3 hn4 hL hc hs hal hP0 hA0 hU0 hC0 HCE0
 go_enter Try.func19, Try.ntmps19
 go_upto_region 1 with fail
 rw [zero_st]
 refine name_last (os := [.cells #[.slice L.se.a n1 L.se.c, .slice L.po.a n2 L.po.c, .slice L.sg.a n3 L.sg.c, .slice L.rt.a n4 L.rt.c] 27, .cells (stL s).toArray 32, .cells (stL zS).toArray 32]) (w0 := w) rfl ?_
 intro W hat hbw
 obtain ⟨gl, hgl⟩ : ∃ g, g = w.heap.size := ⟨_, rfl⟩
 have q0 := hat 0 _ rfl
 obtain ⟨gs, hgs⟩ : ∃ g, g = gl + 1 := ⟨_, rfl⟩
 have q1 := hat 1 _ rfl
 obtain ⟨gr, hgr⟩ : ∃ g, g = gs + 1 := ⟨_, rfl⟩
 have q2 := hat 2 _ rfl
 rw [Nat.add_zero, ← hgl] at q0
 rw [← hgl, ← hgs] at q1
 rw [← hgl, show gl + 2 = gr by omega] at q2
 rw [← hgl, ← hgs, ← hgr]
 have HQl := Lib.hid q0
 have HQs := Lib.hid q1
 have HQr := Lib.hid q2
 have HB0 := Lib.hid hbw
 have HGR : Hid (w.heap.size ≤ gr) := Lib.hid (by omega)
 clear hat hbw q0 q1 q2 hgl hgs hgr
 refine wp_region_rel (by kernel_rfl) [17] 20 [0, 1, 2, 3, 4, 5, 6, 7, 8, 9, 10, 11, 12, 13, 14, 15, 16] [7, 8, 9, 10, 11, 12, 13, 14, 15, 16, 17, 18, 19, 20, 21, 22, 5] #[true, true, true, true, true, true, true, true, true, true, true, true, true, true, true, true, true, false] 1 [(fun v _ => v = .pointer (some ⟨gs, 0, none⟩)), (fun v _ => v = .int .u64 (s.lk : Int)), (fun v _ => v = .pointer (some ⟨gl, 3, none⟩)), (fun v _ => v = .slice L.rt.a n4 L.rt.c), (fun v _ => v = .int .i64 (n4 : Int)), (fun v _ => v = .int .u64 ((pw n4 - 1 : Nat) : Int)), (fun v _ => v = .int .u64 ((A0 : Nat) : Int)), (fun v _ => v = .pointer (some ⟨gs, 67, none⟩)), (fun v _ => v = .int .u32 (s.pt : Int)), (fun v _ => v = .pointer (some ⟨gl, 1, none⟩)), (fun v _ => v = .slice L.po.a n2 L.po.c), (fun v _ => v = .int .i64 (n2 : Int)), (fun v _ => v = .int .u64 ((pw n2 - 1 : Nat) : Int)), (fun v _ => v = .int .u32 ((pw n2 - 1 : Nat) : Int)), (fun v _ => v = .int .u32 ((P0 : Nat) : Int)), (fun v _ => v = .agg (stL ⟨A0, 0, 0, fun _ => 0, P0⟩).toArray), (fun v V => ∃ g, v = .pointer (some ⟨g, 0, none⟩) ∧ V.heap[g]? = some (.cells (stL zS).toArray 32) ∧ W.heap.size ≤ g), (fun _ _ => True)] (by kernel_rfl) (by kernel_rfl) (by kernel_rfl) (by kernel_rfl) (by kernel_rfl) rfl (by kernel_rfl) rfl ?_ ?_ ?_
 ·exact ⟨stays_is _, stays_is _, stays_is _, stays_is _, stays_is _, stays_is _, stays_is _, stays_is _, stays_is _, stays_is _, stays_is _, stays_is _, stays_is _, stays_is _, stays_is _, stays_is _, (fun v W W2 h hb => by obtain ⟨g, h1, h2, h3⟩ := h; exact ⟨g, h1, blk_keep hb h2, h3⟩), stays_true, trivial⟩
 ·refine ⟨?_, ?_, ?_, ?_, ?_, ?_, ?_, ?_, ?_, ?_, ?_, ?_, ?_, ?_, ?_, ?_, ?_, trivial⟩
  ·refine relOb_mk (o := ⟨some 7, _, _, _, _, _⟩) rfl (fun r V hc hf hg hs hb hd => ?_)
   have x3 : r (.tmp 3) = .pointer (some ⟨gs, 0, none⟩) := hs 3 (by kernel_rfl)
   clear hs hd hg
   go_simp
   exact ⟨Below.refl _ _, rfl⟩
  ·refine relOb_mk (o := ⟨some 8, _, _, _, _, _⟩) rfl (fun r V hc hf hg hs hb hd => ?_)
   have h0 : r (.tmp 7) = .pointer (some ⟨gs, 0, none⟩) := hd 0 7 rfl (by kernel_rfl)
   clear hs hd hg
   have l := blk_cell (blk_keep hb HQs.out) 0 _ (st_0 s)
   go_simp
   exact ⟨Below.refl _ _, rfl⟩
  ·refine relOb_mk (o := ⟨some 9, _, _, _, _, _⟩) rfl (fun r V hc hf hg hs hb hd => ?_)
   have x2 : r (.tmp 2) = .pointer (some ⟨gl, 0, none⟩) := hs 2 (by kernel_rfl)
   clear hs hd hg
   go_simp
   exact ⟨Below.refl _ _, rfl⟩
  ·refine relOb_mk (o := ⟨some 10, _, _, _, _, _⟩) rfl (fun r V hc hf hg hs hb hd => ?_)
   have h2 : r (.tmp 9) = .pointer (some ⟨gl, 3, none⟩) := hd 2 9 rfl (by kernel_rfl)
   clear hs hd hg
   have l := blk_cell (blk_keep hb HQl.out) 3 _ (rfl)
   go_simp
   exact ⟨Below.refl _ _, rfl⟩
  ·refine relOb_mk (o := ⟨some 11, _, _, _, _, _⟩) rfl (fun r V hc hf hg hs hb hd => ?_)
   have h3 : r (.tmp 10) = .slice L.rt.a n4 L.rt.c := hd 3 10 rfl (by kernel_rfl)
   clear hs hd hg
   go_simp
   exact ⟨Below.refl _ _, rfl⟩
  ·refine relOb_mk (o := ⟨some 12, _, _, _, _, _⟩) rfl (fun r V hc hf hg hs hb hd => ?_)
   have h4 : r (.tmp 11) = .int .i64 (n4 : Int) := hd 4 11 rfl (by kernel_rfl)
   clear hs hd hg
   go_simp
   refine (KF4.out V).mono ?_
   rintro e w' ⟨rfl, h9⟩
   exact ⟨_, rfl, h9, rfl⟩
  ·refine relOb_mk (o := ⟨some 13, _, _, _, _, _⟩) rfl (fun r V hc hf hg hs hb hd => ?_)
   have h1 : r (.tmp 8) = .int .u64 (s.lk : Int) := hd 1 8 rfl (by kernel_rfl)
   have h5 : r (.tmp 12) = .int .u64 ((pw n4 - 1 : Nat) : Int) := hd 5 12 rfl (by kernel_rfl)
   clear hs hd hg
   have ho1 := HA0.out
   go_simp
   exact ⟨Below.refl _ _, rfl⟩
  ·refine relOb_mk (o := ⟨some 14, _, _, _, _, _⟩) rfl (fun r V hc hf hg hs hb hd => ?_)
   have x3 : r (.tmp 3) = .pointer (some ⟨gs, 0, none⟩) := hs 3 (by kernel_rfl)
   clear hs hd hg
   go_simp
   exact ⟨Below.refl _ _, rfl⟩
  ·refine relOb_mk (o := ⟨some 15, _, _, _, _, _⟩) rfl (fun r V hc hf hg hs hb hd => ?_)
   have h7 : r (.tmp 14) = .pointer (some ⟨gs, 67, none⟩) := hd 7 14 rfl (by kernel_rfl)
   clear hs hd hg
   have l := blk_cell (blk_keep hb HQs.out) 67 _ (st_67 s)
   go_simp
   exact ⟨Below.refl _ _, rfl⟩
  ·refine relOb_mk (o := ⟨some 16, _, _, _, _, _⟩) rfl (fun r V hc hf hg hs hb hd => ?_)
   have x2 : r (.tmp 2) = .pointer (some ⟨gl, 0, none⟩) := hs 2 (by kernel_rfl)
   clear hs hd hg
   go_simp
   exact ⟨Below.refl _ _, rfl⟩
  ·refine relOb_mk (o := ⟨some 17, _, _, _, _, _⟩) rfl (fun r V hc hf hg hs hb hd => ?_)
   have h9 : r (.tmp 16) = .pointer (some ⟨gl, 1, none⟩) := hd 9 16 rfl (by kernel_rfl)
   clear hs hd hg
   have l := blk_cell (blk_keep hb HQl.out) 1 _ (rfl)
   go_simp
   exact ⟨Below.refl _ _, rfl⟩
  ·refine relOb_mk (o := ⟨some 18, _, _, _, _, _⟩) rfl (fun r V hc hf hg hs hb hd => ?_)
   have h10 : r (.tmp 17) = .slice L.po.a n2 L.po.c := hd 10 17 rfl (by kernel_rfl)
   clear hs hd hg
   go_simp
   exact ⟨Below.refl _ _, rfl⟩
  ·refine relOb_mk (o := ⟨some 19, _, _, _, _, _⟩) rfl (fun r V hc hf hg hs hb hd => ?_)
   have h11 : r (.tmp 18) = .int .i64 (n2 : Int) := hd 11 18 rfl (by kernel_rfl)
   clear hs hd hg
   go_simp
   refine (KF2.out V).mono ?_
   rintro e w' ⟨rfl, h9⟩
   exact ⟨_, rfl, h9, rfl⟩
  ·refine relOb_mk (o := ⟨some 20, _, _, _, _, _⟩) rfl (fun r V hc hf hg hs hb hd => ?_)
   have h12 : r (.tmp 19) = .int .u64 ((pw n2 - 1 : Nat) : Int) := hd 12 19 rfl (by kernel_rfl)
   clear hs hd hg
   have hw := HW2.out
   go_simp
   exact ⟨Below.refl _ _, rfl⟩
  ·refine relOb_mk (o := ⟨some 21, _, _, _, _, _⟩) rfl (fun r V hc hf hg hs hb hd => ?_)
   have h8 : r (.tmp 15) = .int .u32 (s.pt : Int) := hd 8 15 rfl (by kernel_rfl)
   have h13 : r (.tmp 20) = .int .u32 ((pw n2 - 1 : Nat) : Int) := hd 13 20 rfl (by kernel_rfl)
   clear hs hd hg
   have ho1 := HP0.out
   go_simp
   exact ⟨Below.refl _ _, rfl⟩
  ·refine relOb_mk (o := ⟨some 22, _, _, _, _, _⟩) rfl (fun r V hc hf hg hs hb hd => ?_)
   have h6 : r (.tmp 13) = .int .u64 ((A0 : Nat) : Int) := hd 6 13 rfl (by kernel_rfl)
   have h14 : r (.tmp 21) = .int .u32 ((P0 : Nat) : Int) := hd 14 21 rfl (by kernel_rfl)
   clear hs hd hg
   refine rel_build_is (o := ⟨some 22, _, _, _, _, _⟩) 32 _ rfl _ ?_ _ (built_2 A0 P0) rfl
   simp only [List.map_toArray, List.map_cons, List.map_nil, h6, h14]
  ·refine relOb_mk (o := ⟨some 5, _, _, _, _, _⟩) rfl (fun r V hc hf hg hs hb hd => ?_)
   clear hs hd hg
   go_simp
   rw [zero_st]
   exact ⟨below1 V _, ⟨_, rfl, alloc1 V _ (Below.refl _ _), hb.size⟩⟩
 ·intro a V hb hx
  have h0 : a.eval (.tmp 7) = .pointer (some ⟨gs, 0, none⟩) := hx 0 7 rfl rfl
  have h1 : a.eval (.tmp 8) = .int .u64 (s.lk : Int) := hx 1 8 rfl rfl
  have h2 : a.eval (.tmp 9) = .pointer (some ⟨gl, 3, none⟩) := hx 2 9 rfl rfl
  have h3 : a.eval (.tmp 10) = .slice L.rt.a n4 L.rt.c := hx 3 10 rfl rfl
  have h4 : a.eval (.tmp 11) = .int .i64 (n4 : Int) := hx 4 11 rfl rfl
  have h5 : a.eval (.tmp 12) = .int .u64 ((pw n4 - 1 : Nat) : Int) := hx 5 12 rfl rfl
  have h6 : a.eval (.tmp 13) = .int .u64 ((A0 : Nat) : Int) := hx 6 13 rfl rfl
  have h7 : a.eval (.tmp 14) = .pointer (some ⟨gs, 67, none⟩) := hx 7 14 rfl rfl
  have h8 : a.eval (.tmp 15) = .int .u32 (s.pt : Int) := hx 8 15 rfl rfl
  have h9 : a.eval (.tmp 16) = .pointer (some ⟨gl, 1, none⟩) := hx 9 16 rfl rfl
  have h10 : a.eval (.tmp 17) = .slice L.po.a n2 L.po.c := hx 10 17 rfl rfl
  have h11 : a.eval (.tmp 18) = .int .i64 (n2 : Int) := hx 11 18 rfl rfl
  have h12 : a.eval (.tmp 19) = .int .u64 ((pw n2 - 1 : Nat) : Int) := hx 12 19 rfl rfl
  have h13 : a.eval (.tmp 20) = .int .u32 ((pw n2 - 1 : Nat) : Int) := hx 13 20 rfl rfl
  have h14 : a.eval (.tmp 21) = .int .u32 ((P0 : Nat) : Int) := hx 14 21 rfl rfl
  have h15 : a.eval (.tmp 22) = .agg (stL ⟨A0, 0, 0, fun _ => 0, P0⟩).toArray := hx 15 22 rfl rfl
  have h16 : (fun v V => ∃ g, v = .pointer (some ⟨g, 0, none⟩) ∧ V.heap[g]? = some (.cells (stL zS).toArray 32) ∧ W.heap.size ≤ g) (a.eval (.tmp 5)) V := hx 16 5 rfl rfl
  obtain ⟨v5, e5⟩ : ∃ v, a.eval (.tmp 5) = v := ⟨_, rfl⟩
  rw [e5] at h16
  unfold fillAll
  simp only [List.foldl_cons, List.foldl_nil, h0, h1, h2, h3, h4, h5, h6, h7, h8, h9, h10, h11, h12, h13, h14, h15, e5, Act.put, List.setIfInBounds_toArray, List.set_cons_zero, List.set_cons_succ]
  clear h0 h1 h2 h3 h4 h5 h6 h7 h8 h9 h10 h11 h12 h13 h14 h15 e5 hx
  obtain ⟨g5, rfl, hq5, hg5⟩ := h16
  have HBV := Lib.hid (below_on HB0.out hb)
  have HG5 : Hid (W.heap.size ≤ g5 ∧ w.heap.size ≤ g5 ∧ gr ≠ g5 ∧ gs ≠ g5 ∧ gl ≠ g5) := Lib.hid (by have h1 := blk_lt HQr.out; have h2 := blk_lt HQs.out; have h3 := blk_lt HQl.out; have h4 := HB0.out.size; omega)
  have HQ5 := Lib.hid hq5
  have HSV := Lib.hid (blk_keep hb HQs.out)
  have HLV := Lib.hid (blk_keep hb HQl.out)
  have HRV := Lib.hid (blk_keep hb HQr.out)
  clear hb hq5 hg5
  obtain ⟨hst, hq9, ho9⟩ := store_st (s' := ⟨A0, 0, 0, fun _ => 0, P0⟩) HQ5.out
  have HST := Lib.hid hst
  have HO1 := Lib.hid hq9
  have HS1 := Lib.hid (Only.keep ho9 HG5.out.2.2.2.1 HSV.out)
  have HL1 := Lib.hid (Only.keep ho9 HG5.out.2.2.2.2 HLV.out)
  have HR1 := Lib.hid (Only.keep ho9 HG5.out.2.2.1 HRV.out)
  have HB1 : Hid (Below w.heap.size w (V.setCells g5 0 (stL ⟨A0, 0, 0, fun _ => 0, P0⟩))) := Lib.hid (Only.below HBV.out HG5.out.2.1 HBV.out.size ho9)
  obtain ⟨V1, hV1⟩ : ∃ V', V' = V.setCells g5 0 (stL ⟨A0, 0, 0, fun _ => 0, P0⟩) := ⟨_, rfl⟩
  rw [← hV1] at HST HO1 HS1 HL1 HR1 HB1
  clear hst hq9 ho9 hV1 HQ5 HSV HLV HRV HBV
  refine wpAny_ready (rs := [17]) (by kernel_rfl) (by simp) (AllReady.cons (o := ⟨none, _, _, _, _, _⟩) rfl (fun K hK => ?_) AllReady.nil)
  refine wp_run_skip (w' := V1) ?_ ?_
  ·refine run_store_is 32 (.tmp 5) (.tmp 22) rfl (vx := .pointer (some ⟨g5, 0, none⟩)) (vy := .agg (stL ⟨A0, 0, 0, fun _ => 0, P0⟩).toArray) ?_ ?_ HST.out
   ·go_simp
   ·go_simp
  refine hK _ _ ?_
  clear hK K HST
  refine wpAny_done (by kernel_rfl) ?_ _
  have s1 := blk_cell HS1.out 1 _ (st_1 s)
  have o0 := blk_cell HO1.out 0 _ (st_0 _)
  have o1 := blk_cell HO1.out 1 _ (st_1 _)
  have f1 := blk_free HO1.out 1
  have hl := blk_lt HO1.out
  have ha := HU0.out
  go_upto_region 3 with fail
  clear s1 o0 o1 f1 hl ha
  refine name_any ?_
  intro V2 hV2
  have ho : Only g5 V1 V2 := by rw [hV2]; exact (Only.refl g5 V1).setCell rfl _
  have HO2 : Hid (V2.heap[g5]? = some (.cells (stL ⟨A0, U0, 0, fun _ => 0, P0⟩).toArray 32)) := Lib.hid (by rw [hV2]; exact (blk_set HO1.out 1 _).trans (congrArg (fun C => some (Obj.cells C 32)) (st_s1 _ _)))
  have HS2 := Lib.hid (Only.keep ho HG5.out.2.2.2.1 HS1.out)
  have HL2 := Lib.hid (Only.keep ho HG5.out.2.2.2.2 HL1.out)
  have HR2 := Lib.hid (Only.keep ho HG5.out.2.2.1 HR1.out)
  have HB2 : Hid (Below w.heap.size w V2) := Lib.hid (Only.below HB1.out HG5.out.2.1 HB1.out.size ho)
  clear hV2 ho HO1 HS1 HL1 HR1 HB1
  have s1 := blk_cell HS2.out 2 _ (st_2 s)
  have o0 := blk_cell HO2.out 0 _ (st_0 _)
  have o1 := blk_cell HO2.out 2 _ (st_2 _)
  have f1 := blk_free HO2.out 2
  have hl := blk_lt HO2.out
  have ha := HC0.out
  go_upto_region 4 with fail
  clear s1 o0 o1 f1 hl ha
  refine name_any ?_
  intro V3 hV3
  have ho : Only g5 V2 V3 := by rw [hV3]; exact (Only.refl g5 V2).setCell rfl _
  have HO3 : Hid (V3.heap[g5]? = some (.cells (stL ⟨A0, U0, C0, fun _ => 0, P0⟩).toArray 32)) := Lib.hid (by rw [hV3]; exact (blk_set HO2.out 2 _).trans (congrArg (fun C => some (Obj.cells C 32)) (st_s2 _ _)))
  have HS3 := Lib.hid (Only.keep ho HG5.out.2.2.2.1 HS2.out)
  have HL3 := Lib.hid (Only.keep ho HG5.out.2.2.2.2 HL2.out)
  have HR3 := Lib.hid (Only.keep ho HG5.out.2.2.1 HR2.out)
  have HB3 : Hid (Below w.heap.size w V3) := Lib.hid (Only.below HB2.out HG5.out.2.1 HB2.out.size ho)
  clear hV3 ho HO2 HS2 HL2 HR2 HB2
  have HO4 : Hid (V3.heap[g5]? = some (.cells (stL (tdS n4 n2 0 s)).toArray 32)) := Lib.hid (by rw [HT0.out]; exact HO3.out)
  go_upto_region 5 with fail
  go_loopg [6] n4 (fun g v wr => ∃ i : Nat, i + g = n4 ∧ v = .int .i64 (i : Int) ∧ wr.heap[g5]? = some (.cells (stL (tdS n4 n2 i s)).toArray 32) ∧ WX (fun b => b = g5) V3 wr)
  case atStart => exact ⟨0, by omega, rfl, HO4.out, WX.refl _ _⟩
  case round =>
   obtain ⟨i, hi, rfl, hq, hw⟩ := hrel
   have HI := Lib.hid hi
   have HOI := Lib.hid hq
   have HWX := Lib.hid hw
   have HLI := Lib.hid (hw.keep HG5.out.2.2.2.2 HL3.out)
   have HSI := Lib.hid (hw.keep HG5.out.2.2.2.1 HS3.out)
   have l3 := blk_cell HLI.out 3 _ rfl
   clear hi hq hw
   by_cases hlt : i < n4
   ·have d1 : (0 : Int) ≤ i := by omega
    have d2 : (i : Int) < n4 := by omega
    have e1 := k_succ hlt (Nat.le_trans HS4.out (by decide))
    have HLT := Lib.hid hlt
    obtain ⟨bc, hbc⟩ : ∃ b, hasBit C0 i = b := ⟨_, rfl⟩
    have KHC : Hid (∀ V, Calls Try.prog 22 #[.int .u64 (C0 : Int), .int .i64 (i : Int)] V fun e w' => e = .returned (.bool bc) ∧ Below V.heap.size V w') := Lib.hid (fun V => dhas_is bc C0 i V (by have := HLT.out; have := HS4.out; omega) HCL.out hbc)
    have HBC : Hid (hasBit (s.ca &&& (s.lk &&& (pw n4 - 1))) i = bc) := Lib.hid (by rw [HCE.out]; exact hbc)
    have c2 := blk_cell HOI.out 2 _ (st_2 _)
    rw [tds_cai, HCE.out] at c2
    clear hbc hlt
    go_wp2_with fail
    refine (KHC.out _).mono ?_
    rintro e w2 ⟨rfl, hb2⟩
    have HO2 := Lib.hid (blk_keep hb2 HOI.out)
    have HS2 := Lib.hid (blk_keep hb2 HSI.out)
    have HX2 := Lib.hid (HWX.out.trans (WX.of_below hb2))
    clear hb2 c2 KHC
    cases bc with
    | false =>
      go_wp2_with fail
      go_roundg (n4 - (i + 1))
      case rel => exact ⟨i + 1, k_next HI.out HLT.out, by go_num, by rw [tds_no HBC.out]; exact HO2.out, HX2.out⟩
      case measure => exact k_less HI.out HLT.out
    | true =>
      have HI64 : Hid (i < 64) := Lib.hid (by have := HLT.out; have := HS4.out; omega)
      have s3 := blk_cell HS2.out (3 + i) _ (st_tm9 _ HI64.out)
      have o3 := blk_cell HO2.out (3 + i) _ (st_tm9 _ HI64.out)
      have f3 := blk_free HO2.out (3 + i)
      have hl := blk_lt HO2.out
      have d3 : (i : Int) < 64 := by have := HI64.out; omega
      obtain ⟨t, ht⟩ : ∃ t, s.tm i = t := ⟨_, rfl⟩
      rw [ht] at s3
      have hm : min (t : Int) 20 = ((min t 20 : Nat) : Int) := by omega
      have HTT := Lib.hid ht
      clear ht
      go_upto_region 6 with fail
      clear s3 o3 f3 hl d3 hm
      refine name_any ?_
      intro VZ hVZ
      have ho : Only g5 w2 VZ := by rw [hVZ]; exact (Only.refl g5 w2).setCell rfl _
      have HOZ : Hid (VZ.heap[g5]? = some (.cells (stL (tdS n4 n2 (i + 1) s)).toArray 32)) := Lib.hid (by rw [hVZ, tds_yes HBC.out, HTT.out]; exact (blk_set HO2.out (3 + i) _).trans (congrArg (fun C => some (Obj.cells C 32)) (st_stm _ _ HI64.out)))
      have HXZ := Lib.hid (HX2.out.trans (WX.of_only (X := fun b => b = g5) ho rfl))
      clear hVZ ho
      go_wp2_with fail
      go_roundg (n4 - (i + 1))
      case rel => exact ⟨i + 1, k_next HI.out HLT.out, by go_num, HOZ.out, HXZ.out⟩
      case measure => exact k_less HI.out HLT.out
   ·have d2 : ¬ ((i : Int) < n4) := by omega
    have HOE : Hid (wr.heap[g5]? = some (.cells (stL (tidyS n4 n2 s)).toArray 32)) := Lib.hid (by rw [← tds_all, show tdS n4 n2 n4 s = tdS n4 n2 i s by rw [show n4 = i by have := HI.out; omega]]; exact HOI.out)
    have HRE := Lib.hid (HWX.out.keep HG5.out.2.2.1 HR3.out)
    have HBE : Hid (Below w.heap.size w wr) := Lib.hid (WX.below HB3.out HWX.out (fun b hb => by rw [hb]; exact HG5.out.2.1))
    clear hlt
    go_upto_region 9 with fail
    clear l3 d2
    have HLD := Lib.hid (load_st HOE.out)
    obtain ⟨hst, hq9, ho9⟩ := store_st (s' := (tidyS n4 n2 s)) HRE.out
    have HST := Lib.hid hst
    have HQ9 := Lib.hid hq9
    have HB9 : Hid (Below w.heap.size w (wr.setCells gr 0 (stL (tidyS n4 n2 s)))) := Lib.hid (Only.below HBE.out HGR.out HBE.out.size ho9)
    clear hst hq9 ho9
    go_wp2_with (first
     | ((with_reducible refine wpList_load_is (op := ⟨some 54, _, _, _, _, _⟩) rfl 32 _ rfl _ _ ?_ HLD.out ?_); (· rfl))
     | ((with_reducible refine wpList_store_is (op := ⟨none, .store 32 _ _, _, _, _, _⟩) rfl 32 _ _ rfl _ _ ?_ ?_ _ HST.out ?_); (· rfl); (· rfl)))
    (try simp only [Exit.inBlock, Exit.then])
    refine bodyPost_ret (results_cell_row (g := gr) rfl _ _ 32 (stL (tidyS n4 n2 s)).toArray (0, 0) _ rfl HQ9.out Try.underlying32 rfl (by rw [List.size_toArray, st_len]; exact info_st)) rfl ?_
    exact ⟨rfl, HB9.out⟩
end Go.Proofs.Ytjienmjpfklgeaa
