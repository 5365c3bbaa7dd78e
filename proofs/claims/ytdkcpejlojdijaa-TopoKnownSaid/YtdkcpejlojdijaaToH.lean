/-
  Walks: small loops over rows of numbers and of needs (slices.Index, Contains; the document's count; SameInts, SameNeeds).
-/
import Derived.Test.YtdkcpejlojdijaaToF
namespace Go.Proofs.Ytdkcpejlojdijaa
open Go.RowKit

/-- a row of n elements lies in a block of its own, made since the heap was as great as base -/
def NewRow (sz base : Nat) (w : World) (a : Option Addr) (n : Nat) : Prop := n = 0 ∨ ∃ g cs t, a = some ⟨g, 0, none⟩ ∧ base ≤ g ∧ w.heap[g]? = some (.cells cs t (0, 0)) ∧ n * sz ≤ cs.size
theorem NewRow.mono {sz base base' : Nat} {w : World} {a : Option Addr} {n : Nat} (h : NewRow sz base w a n) (hb : base' ≤ base) : NewRow sz base' w a n := by
  refine h.imp id ?_
  rintro ⟨g, cs, t, h1, h2, h3, h4⟩
  exact ⟨g, cs, t, h1, Nat.le_trans hb h2, h3, h4⟩
theorem NewRow.below {sz base : Nat} {w w' : World} {a : Option Addr} {n : Nat} (h : NewRow sz base w a n) (hb : Below w.heap.size w w') : NewRow sz base w' a n := by
  refine h.imp id ?_
  rintro ⟨g, cs, t, h1, h2, h3, h4⟩
  exact ⟨g, cs, t, h1, h2, blk_keep hb h3, h4⟩
theorem own_sl2 {α : Type} {f : α → List Value} {sz : Nat} {w : World} {base : Nat} {e : TypeId} {v : Value} {n : Nat} {l : List α} (hf : ∀ c, (f c).length = sz) (hn : l.length = n) (h : w.ownsRow base e sz v n (l.flatMap f)) :
    ∃ a c, v = .slice a n c ∧ SlAt sz f w ⟨a, c, l⟩ ∧ NewRow sz base w a n := by
  obtain ⟨a, c, hv, hs⟩ := own_sl hf hn h
  refine ⟨a, c, hv, hs, ?_⟩
  rcases h.2 with ⟨_, rfl⟩ | ⟨g, cap, cur, hv2, hg, hheap, hncap, hcm, hsz, htake⟩
  · exact .inl rfl
  · rw [hv] at hv2
    injection hv2 with h1 h2 h3
    refine .inr ⟨g, cur, e, h1, hg, hheap, ?_⟩
    have h4 := congrArg List.length htake
    rw [List.length_take, flat_len hf, hn, Array.length_toList] at h4
    omega

/-- the place of a number, from place k on; -1: it is not there -/
def ixI : Nat → List Int → Int → Int
  | _, [], _ => -1
  | k, y :: t, s => if y = s then (k : Int) else ixI (k + 1) t s
def hasI (l : List Int) (s : Int) : Bool := l.any fun x => decide (x = s)
theorem ixI_iff : ∀ (l : List Int) (k : Nat) (s : Int), (0 ≤ ixI k l s ∧ hasI l s = true) ∨ (ixI k l s < 0 ∧ hasI l s = false) := by
  intro l
  induction l with
  | nil => intro k s; exact .inr ⟨by unfold ixI; decide, by unfold hasI; rfl⟩
  | cons y l ih =>
    intro k s
    by_cases h : y = s
    · exact .inl ⟨by unfold ixI; rw [if_pos h]; omega, by unfold hasI; simp [h]⟩
    · have e1 : ixI k (y :: l) s = ixI (k + 1) l s := by
        show (if y = s then (k : Int) else ixI (k + 1) l s) = _
        rw [if_neg h]
      have e2 : hasI (y :: l) s = hasI l s := by unfold hasI; simp [h]
      rw [e1, e2]
      exact ih (k + 1) s
theorem ixI_drop {l : List Int} {s y : Int} {k : Nat} (h : l[k]? = some y) (hy : y ≠ s) : ixI k (l.drop k) s = ixI (k + 1) (l.drop (k + 1)) s := by
  have hk : k < l.length := (List.getElem?_eq_some_iff.1 h).1
  rw [List.drop_eq_getElem_cons hk, (List.getElem?_eq_some_iff.1 h).2]
  show (if y = s then (k : Int) else ixI (k + 1) (l.drop (k + 1)) s) = _
  rw [if_neg hy]
theorem ixI_hit {l : List Int} {s y : Int} {k : Nat} (h : l[k]? = some y) (hy : y = s) : ixI k (l.drop k) s = k := by
  have hk : k < l.length := (List.getElem?_eq_some_iff.1 h).1
  rw [List.drop_eq_getElem_cons hk, (List.getElem?_eq_some_iff.1 h).2]
  show (if y = s then (k : Int) else ixI (k + 1) (l.drop (k + 1)) s) = _
  rw [if_pos hy]
theorem ixI_end {l : List Int} {s : Int} {k : Nat} (h : l.length = k) : ixI k (l.drop k) s = -1 := by rw [List.drop_eq_nil_of_le (by omega)]; rfl
/-- how often a number is in a row -/
def cntI (l : List Int) (s : Int) : Nat := (l.filter fun x => decide (x = s)).length
theorem cntI_take {l : List Int} {s y : Int} {k : Nat} (h : l[k]? = some y) : cntI (l.take (k + 1)) s = cntI (l.take k) s + (if y = s then 1 else 0) := by
  unfold cntI; rw [List.take_add_one, h, List.filter_append, List.length_append]
  by_cases hy : y = s <;> simp [hy]
theorem cntI_le (l : List Int) (s : Int) : cntI l s ≤ l.length := List.length_filter_le _ _
attribute [local irreducible] ixI cntI hasI
theorem index_is (x : Option Addr) (m c : Nat) (l : List Int) (s : Int) (w : World) (hn : l.length = m) (hm : m ≤ 9223372036854775807) (hl : RowAt 1 intC w x l) :
    Calls Try.prog 55 #[.slice x m c, .int .i64 s] w fun e w' => e = .returned (.int .i64 (ixI 0 l s)) ∧ w = w' := by
  have HN := Lib.hid hn
  clear hn
  go_enter Try.func55, Try.ntmps55
  go_wp2_with fail
  go_loopg [5, 8] m (fun g _ i wr => ∃ k : Nat, k + g = m ∧ i = .int .i64 (k : Int) ∧ ixI k (l.drop k) s = ixI 0 l s ∧ w = wr)
  case atStart => exact ⟨0, by omega, rfl, rfl, rfl⟩
  case round =>
    obtain ⟨k, hk, rfl, hb, rfl⟩ := hrel
    have HB := Lib.hid hb
    clear hb
    by_cases hlt : k < m
    · obtain ⟨y, hy⟩ : ∃ y, l[k]? = some y := ⟨_, List.getElem?_eq_getElem (by rw [HN.out]; exact hlt)⟩
      rcases hl with rfl | ⟨b, off, rfl, hc⟩
      · simp at hy
      have z0 := hc k y hy 0 _ rfl
      rw [Nat.add_zero, Nat.mul_one] at z0
      have HY := Lib.hid hy
      have d1 : (0 : Int) ≤ k := by omega
      have d2 : (k : Int) < m := by omega
      have e1 : wrap64 ((k : Int) + 1) = (k : Int) + 1 := by unfold wrap64; omega
      have HK := Lib.hid hk
      clear hc hy hk
      by_cases hys : y = s
      · have HF : Hid (ixI 0 l s = k) := Lib.hid (HB.out.symm.trans (ixI_hit HY.out hys))
        have hbe : (s == y) = true := by simp [hys]
        clear hys
        go_wp2_with fail
        go_ret
        exact ⟨by rw [HF.out]; rfl, rfl⟩
      · have HT : Hid (ixI (k + 1) (l.drop (k + 1)) s = ixI 0 l s) := Lib.hid ((ixI_drop HY.out hys).symm.trans HB.out)
        have hbe : (s == y) = false := by simpa using fun h => hys h.symm
        clear hys
        go_wp2_with fail
        go_roundg (m - (k + 1))
        case rel => exact ⟨k + 1, by have := HK.out; omega, by go_num, HT.out, rfl⟩
        case measure => have := HK.out; omega
    · have hkm : m = k := by omega
      subst hkm
      have HF : Hid (ixI 0 l s = -1) := Lib.hid (HB.out.symm.trans (ixI_end HN.out))
      go_wp2_with fail
      go_ret
      exact ⟨by rw [HF.out]; rfl, rfl⟩
theorem contains_is (b : Bool) (x : Option Addr) (m c : Nat) (l : List Int) (s : Int) (w : World) (hB : hasI l s = b) (hn : l.length = m) (hm : m ≤ 9223372036854775807) (hl : RowAt 1 intC w x l) :
    Calls Try.prog 40 #[.slice x m c, .int .i64 s] w fun e w' => e = .returned (.bool b) ∧ w = w' := by
  obtain ⟨z, hz⟩ : ∃ z, ixI 0 l s = z := ⟨_, rfl⟩
  have hi := ixI_iff l 0 s
  rw [hz, hB] at hi
  have HC := Lib.hid (index_is x m c l s w hn hm hl)
  rw [hz] at HC
  clear hz hn hm hl
  rcases hi with ⟨h1, rfl⟩ | ⟨h1, rfl⟩
  · go_enter Try.func40, Try.ntmps40
    go_wp2_with fail
    refine HC.out.mono ?_
    rintro e w1 ⟨rfl, rfl⟩
    go_wp2_with fail
    go_ret
    exact ⟨rfl, rfl⟩
  · have h2 : ¬ 0 ≤ z := by omega
    clear h1
    go_enter Try.func40, Try.ntmps40
    go_wp2_with fail
    refine HC.out.mono ?_
    rintro e w1 ⟨rfl, rfl⟩
    go_wp2_with fail
    go_ret
    exact ⟨by show Ending.returned (.bool (decide (0 ≤ z))) = _; rw [decide_eq_false (by omega)], rfl⟩
theorem count_is (x : Option Addr) (m c : Nat) (l : List Int) (s : Int) (w : World) (hn : l.length = m) (hm : m ≤ 9223372036854775807) (hl : RowAt 1 intC w x l) :
    Calls Try.prog 51 #[.slice x m c, .int .i64 s] w fun e w' => e = .returned (.int .i64 (cntI l s : Int)) ∧ w = w' := by
  have HN := Lib.hid hn
  clear hn
  go_enter Try.func51, Try.ntmps51
  go_wp2_with fail
  go_loopg [5, 6] m (fun g v i wr => ∃ k : Nat, k + g = m ∧ i = .int .i64 (k : Int) ∧ v = .int .i64 (cntI (l.take k) s : Int) ∧ w = wr)
  case atStart => exact ⟨0, by omega, rfl, by unfold cntI; rfl, rfl⟩
  case round =>
    obtain ⟨k, hk, rfl, rfl, rfl⟩ := hrel
    by_cases hlt : k < m
    · obtain ⟨y, hy⟩ : ∃ y, l[k]? = some y := ⟨_, List.getElem?_eq_getElem (by rw [HN.out]; exact hlt)⟩
      rcases hl with rfl | ⟨b, off, rfl, hc⟩
      · simp at hy
      have z0 := hc k y hy 0 _ rfl
      rw [Nat.add_zero, Nat.mul_one] at z0
      have hle : cntI (l.take k) s ≤ k := Nat.le_trans (cntI_le _ _) (by rw [List.length_take]; omega)
      have HT := Lib.hid (cntI_take (s := s) hy)
      have d1 : (0 : Int) ≤ k := by omega
      have d2 : (k : Int) < m := by omega
      have e1 : wrap64 ((k : Int) + 1) = (k : Int) + 1 := by unfold wrap64; omega
      have e2 : wrap64 ((cntI (l.take k) s : Int) + 1) = (cntI (l.take k) s : Int) + 1 := by unfold wrap64; omega
      have HK := Lib.hid hk
      clear hc hy hk hle
      by_cases hys : y = s
      · have hbe : (y == s) = true := by simp [hys]
        have HF : Hid (cntI (l.take (k + 1)) s = cntI (l.take k) s + 1) := Lib.hid (by rw [HT.out, if_pos hys])
        clear hys
        go_wp2_with fail
        go_roundg (m - (k + 1))
        case rel => exact ⟨k + 1, by have := HK.out; omega, by go_num, by rw [HF.out]; first | rfl | go_num, rfl⟩
        case measure => have := HK.out; omega
      · have hbe : (y == s) = false := by simpa using hys
        have HF : Hid (cntI (l.take (k + 1)) s = cntI (l.take k) s) := Lib.hid (by rw [HT.out, if_neg hys, Nat.add_zero])
        clear hys
        go_wp2_with fail
        go_roundg (m - (k + 1))
        case rel => exact ⟨k + 1, by have := HK.out; omega, by go_num, by rw [HF.out], rfl⟩
        case measure => have := HK.out; omega
    · have hkm : m = k := by omega
      subst hkm
      have HF : Hid (l.take m = l) := Lib.hid (List.take_of_length_le (by rw [HN.out]; exact Nat.le_refl _))
      go_wp2_with fail
      go_ret
      exact ⟨by rw [HF.out]; rfl, rfl⟩

set_option maxRecDepth 100000 in
set_option maxHeartbeats 2000000 in
theorem rtrack_own (r : Rt) (w : World) (hr : RtAt w r) (hlen : r.pa.l.length + r.ov.l.length ≤ 100000) :
    Calls Try.prog 11 #[.agg #[.string r.nm, .int .i64 r.sg, r.pa.v, r.po.v, r.ov.v, r.fl.v]] w fun e w' => ∃ a n c, e = .returned (.slice a n c) ∧ n = r.pa.l.length + r.ov.l.length ∧ SlAt 1 intC w' ⟨a, c, r.pa.l ++ r.ov.l⟩ ∧ Below w.heap.size w w' ∧ NewRow 1 w.heap.size w' a n := by
  obtain ⟨nm, sg, ⟨pa, pc, pl⟩, ⟨oa, oc, ol⟩, ⟨va, vc, vl⟩, ⟨fa, fc, fl⟩⟩ := r
  have hS1 := src_sl int_len int_one hr.pa
  have hS2 := src_sl int_len int_one hr.ov
  dsimp only at hS1 hS2 hlen ⊢
  obtain ⟨m1, hm1⟩ : ∃ m, pl.length = m := ⟨_, rfl⟩
  obtain ⟨m2, hm2⟩ : ∃ m, ol.length = m := ⟨_, rfl⟩
  obtain ⟨m3, hm3⟩ : ∃ m, vl.length = m := ⟨_, rfl⟩
  obtain ⟨m4, hm4⟩ : ∃ m, fl.length = m := ⟨_, rfl⟩
  rw [slv2 hm1, slv2 hm2, slv2 hm3, slv2 hm4]
  rw [hm1, hm3] at hlen ⊢
  obtain ⟨i0, hi, hz0, hz1, hz2⟩ := info_parts info_int
  have HI := Lib.hid (And.intro hi (And.intro hz0 (And.intro hz1 hz2)))
  obtain ⟨W, hW⟩ : ∃ W, W = w.alloc (.cells #[.string nm, .int .i64 sg, .slice pa m1 pc, .slice oa m2 oc, .slice va m3 vc, .slice fa m4 fc] 25) := ⟨_, rfl⟩
  have hBW : Below w.heap.size w W := by rw [hW]; exact below1 w _
  have hk : W.heap[w.heap.size]? = some (.cells #[.string nm, .int .i64 sg, .slice pa m1 pc, .slice oa m2 oc, .slice va m3 vc, .slice fa m4 fc] 25) := by rw [hW]; exact alloc1 w _ (Below.refl _ _)
  have HS1 := Lib.hid (srcAt_below hS1 hBW)
  have HS2 := Lib.hid (srcAt_below hS2 hBW)
  have HBW := Lib.hid hBW
  have HM := Lib.hid (And.intro hm1 (And.intro hm2 (And.intro hm3 hm4)))
  have HLE := Lib.hid hlen
  obtain ⟨gx, hgx⟩ : ∃ g, g = w.heap.size := ⟨_, rfl⟩
  rw [← hgx] at hk
  have HK := Lib.hid hk
  have HWW := Lib.hid hW
  have c2 := blk_cell hk 2 _ rfl
  have c3 := blk_cell hk 3 _ rfl
  have c4 := blk_cell hk 4 _ rfl
  have c5 := blk_cell hk 5 _ rfl
  clear hi hz0 hz1 hz2 hS1 hS2 hm1 hm2 hm3 hm4 hBW hk hlen hr hW
  go_enter Try.func11, Try.ntmps11
  go_upto_region 1 with fail
  rw [← HWW.out, ← hgx]
  clear hgx
  go_upto_region 2 with fail
  go_wp2_with (at_builtin; first
    | (refine wpList_append_src rfl _ _ 22 rfl W.heap.size 3 i0 (.int .i64 0) 1 8 Try.underlying22 HI.out.1 HI.out.2.1 HI.out.2.2.1 HI.out.2.2.2 rfl (by decide) (.slice none 0 0) 0 [] rfl (World.ownsRow_nil _ _ _ _) pa m1 pc (pl.flatMap intC) rfl (by rw [flat_len int_len, HM.out.1]) HS1.out (by have := HLE.out; unfold maxLen; omega) (by have := HLE.out; omega) (Nat.le_refl _) ?_; intro v4 W4 hown4 hg4; have hB4 : Below W.heap.size W W4 := (Below.refl _ W).grown hg4 (Nat.le_refl _) (fun k hk => by cases hk); have HK4 := Lib.hid (blk_keep hB4 HK.out); rw [List.nil_append, Nat.zero_add] at hown4; have d2 := blk_cell HK4.out 2 _ rfl; have d3 := blk_cell HK4.out 3 _ rfl; have d4 := blk_cell HK4.out 4 _ rfl; have d5 := blk_cell HK4.out 5 _ rfl; have HO4 := Lib.hid hown4; have HB4 := Lib.hid hB4; have HS4 := Lib.hid (srcAt_below HS2.out hB4); clear hown4 hg4 hB4 c2 c3 c4 c5)
    | (refine wpList_append_src rfl _ _ 22 rfl W.heap.size 3 i0 (.int .i64 0) 1 8 Try.underlying22 HI.out.1 HI.out.2.1 HI.out.2.2.1 HI.out.2.2.2 rfl (by decide) v4 m1 (pl.flatMap intC) rfl HO4.out va m3 vc (vl.flatMap intC) rfl (by rw [flat_len int_len, HM.out.2.2.1]) HS4.out (by have := HLE.out; unfold maxLen; omega) (by have := HLE.out; omega) HB4.out.size ?_; intro v5 W5 hown5 hg5; rw [← List.flatMap_append] at hown5; obtain ⟨a5, c5, rfl, hS5, hN5⟩ := own_sl2 int_len (by rw [List.length_append, HM.out.1, HM.out.2.2.1]) hown5; have HS5 := Lib.hid hS5; have HN5 := Lib.hid hN5; have HB5 := Lib.hid (HB4.out.grown hg5 HB4.out.size (fun k hk => (HO4.out.lt _ hk).1)); clear hown5 hg5 hS5 hN5 d2 d3 d4 d5))
  go_ret
  exact ⟨a5, _, c5, rfl, rfl, HS5.out, below_on HBW.out HB5.out, HN5.out.mono HBW.out.size⟩
theorem rtrack_is (r : Rt) (w : World) (hr : RtAt w r) (hlen : r.pa.l.length + r.ov.l.length ≤ 100000) :
    Calls Try.prog 11 #[.agg #[.string r.nm, .int .i64 r.sg, r.pa.v, r.po.v, r.ov.v, r.fl.v]] w fun e w' => ∃ a n c, e = .returned (.slice a n c) ∧ n = r.pa.l.length + r.ov.l.length ∧ SlAt 1 intC w' ⟨a, c, r.pa.l ++ r.ov.l⟩ ∧ Below w.heap.size w w' :=
  (rtrack_own r w hr hlen).mono (fun _ _ ⟨a, n, c, h1, h2, h3, h4, _⟩ => ⟨a, n, c, h1, h2, h3, h4⟩)
theorem info_nd : (Try.prog.info? 32).map (fun i => (i.zero, i.size, i.bytes)) = some (some (.agg #[.int .i64 0, .bool false]), 2, 16) := by kernel_rfl

set_option maxRecDepth 100000 in
set_option maxHeartbeats 2000000 in
theorem rneeds_own (r : Rt) (w : World) (hr : RtAt w r) (hlen : r.po.l.length + r.fl.l.length ≤ 100000) :
    Calls Try.prog 12 #[.agg #[.string r.nm, .int .i64 r.sg, r.pa.v, r.po.v, r.ov.v, r.fl.v]] w fun e w' => ∃ a n c, e = .returned (.slice a n c) ∧ n = r.po.l.length + r.fl.l.length ∧ SlAt 2 ndC w' ⟨a, c, r.po.l ++ r.fl.l⟩ ∧ Below w.heap.size w w' ∧ NewRow 2 w.heap.size w' a n := by
  obtain ⟨nm, sg, ⟨pa, pc, pl⟩, ⟨oa, oc, ol⟩, ⟨va, vc, vl⟩, ⟨fa, fc, fl⟩⟩ := r
  have hS1 := src_sl nd_len nd_one hr.po
  have hS2 := src_sl nd_len nd_one hr.fl
  dsimp only at hS1 hS2 hlen ⊢
  obtain ⟨m1, hm1⟩ : ∃ m, pl.length = m := ⟨_, rfl⟩
  obtain ⟨m2, hm2⟩ : ∃ m, ol.length = m := ⟨_, rfl⟩
  obtain ⟨m3, hm3⟩ : ∃ m, vl.length = m := ⟨_, rfl⟩
  obtain ⟨m4, hm4⟩ : ∃ m, fl.length = m := ⟨_, rfl⟩
  rw [slv2 hm1, slv2 hm2, slv2 hm3, slv2 hm4]
  rw [hm2, hm4] at hlen ⊢
  obtain ⟨i0, hi, hz0, hz1, hz2⟩ := info_parts info_nd
  have HI := Lib.hid (And.intro hi (And.intro hz0 (And.intro hz1 hz2)))
  obtain ⟨W, hW⟩ : ∃ W, W = w.alloc (.cells #[.string nm, .int .i64 sg, .slice pa m1 pc, .slice oa m2 oc, .slice va m3 vc, .slice fa m4 fc] 25) := ⟨_, rfl⟩
  have hBW : Below w.heap.size w W := by rw [hW]; exact below1 w _
  have hk : W.heap[w.heap.size]? = some (.cells #[.string nm, .int .i64 sg, .slice pa m1 pc, .slice oa m2 oc, .slice va m3 vc, .slice fa m4 fc] 25) := by rw [hW]; exact alloc1 w _ (Below.refl _ _)
  have HS1 := Lib.hid (srcAt_below hS1 hBW)
  have HS2 := Lib.hid (srcAt_below hS2 hBW)
  have HBW := Lib.hid hBW
  have HM := Lib.hid (And.intro hm1 (And.intro hm2 (And.intro hm3 hm4)))
  have HLE := Lib.hid hlen
  obtain ⟨gx, hgx⟩ : ∃ g, g = w.heap.size := ⟨_, rfl⟩
  rw [← hgx] at hk
  have HK := Lib.hid hk
  have HWW := Lib.hid hW
  have c2 := blk_cell hk 2 _ rfl
  have c3 := blk_cell hk 3 _ rfl
  have c4 := blk_cell hk 4 _ rfl
  have c5 := blk_cell hk 5 _ rfl
  clear hi hz0 hz1 hz2 hS1 hS2 hm1 hm2 hm3 hm4 hBW hk hlen hr hW
  go_enter Try.func12, Try.ntmps12
  go_upto_region 1 with fail
  rw [← HWW.out, ← hgx]
  clear hgx
  go_upto_region 2 with fail
  go_wp2_with (at_builtin; first
    | (refine wpList_append_src rfl _ _ 23 rfl W.heap.size 32 i0 (.agg #[.int .i64 0, .bool false]) 2 16 Try.underlying23 HI.out.1 HI.out.2.1 HI.out.2.2.1 HI.out.2.2.2 rfl (by decide) (.slice none 0 0) 0 [] rfl (World.ownsRow_nil _ _ _ _) oa m2 oc (ol.flatMap ndC) rfl (by rw [flat_len nd_len, HM.out.2.1]) HS1.out (by have := HLE.out; unfold maxLen; omega) (by have := HLE.out; omega) (Nat.le_refl _) ?_; intro v4 W4 hown4 hg4; have hB4 : Below W.heap.size W W4 := (Below.refl _ W).grown hg4 (Nat.le_refl _) (fun k hk => by cases hk); have HK4 := Lib.hid (blk_keep hB4 HK.out); rw [List.nil_append, Nat.zero_add] at hown4; have d2 := blk_cell HK4.out 2 _ rfl; have d3 := blk_cell HK4.out 3 _ rfl; have d4 := blk_cell HK4.out 4 _ rfl; have d5 := blk_cell HK4.out 5 _ rfl; have HO4 := Lib.hid hown4; have HB4 := Lib.hid hB4; have HS4 := Lib.hid (srcAt_below HS2.out hB4); clear hown4 hg4 hB4 c2 c3 c4 c5)
    | (refine wpList_append_src rfl _ _ 23 rfl W.heap.size 32 i0 (.agg #[.int .i64 0, .bool false]) 2 16 Try.underlying23 HI.out.1 HI.out.2.1 HI.out.2.2.1 HI.out.2.2.2 rfl (by decide) v4 m2 (ol.flatMap ndC) rfl HO4.out fa m4 fc (fl.flatMap ndC) rfl (by rw [flat_len nd_len, HM.out.2.2.2]) HS4.out (by have := HLE.out; unfold maxLen; omega) (by have := HLE.out; omega) HB4.out.size ?_; intro v5 W5 hown5 hg5; rw [← List.flatMap_append] at hown5; obtain ⟨a5, c5, rfl, hS5, hN5⟩ := own_sl2 nd_len (by rw [List.length_append, HM.out.2.1, HM.out.2.2.2]) hown5; have HS5 := Lib.hid hS5; have HN5 := Lib.hid hN5; have HB5 := Lib.hid (HB4.out.grown hg5 HB4.out.size (fun k hk => (HO4.out.lt _ hk).1)); clear hown5 hg5 hS5 hN5 d2 d3 d4 d5))
  go_ret
  exact ⟨a5, _, c5, rfl, rfl, HS5.out, below_on HBW.out HB5.out, HN5.out.mono HBW.out.size⟩
theorem rneeds_is (r : Rt) (w : World) (hr : RtAt w r) (hlen : r.po.l.length + r.fl.l.length ≤ 100000) :
    Calls Try.prog 12 #[.agg #[.string r.nm, .int .i64 r.sg, r.pa.v, r.po.v, r.ov.v, r.fl.v]] w fun e w' => ∃ a n c, e = .returned (.slice a n c) ∧ n = r.po.l.length + r.fl.l.length ∧ SlAt 2 ndC w' ⟨a, c, r.po.l ++ r.fl.l⟩ ∧ Below w.heap.size w w' :=
  (rneeds_own r w hr hlen).mono (fun _ _ ⟨a, n, c, h1, h2, h3, h4, _⟩ => ⟨a, n, c, h1, h2, h3, h4⟩)
end Go.Proofs.Ytdkcpejlojdijaa
