/-
  Layer 06: conflict.Table.
-/
import Derived.Test.YtififkielmddpaaCoMa
import Derived.Test.YtififkielmddpaaMC
namespace Go.Proofs.Ytififkielmddpaa
open Go.RowKit
set_option maxRecDepth 100000
def u64C (n : Nat) : List Value := [.int .u64 (n : Int)]
theorem u64_len (c : Nat) : (u64C c).length = 1 := rfl
theorem u64_one (c : Nat) : ∀ u ∈ u64C c, u.oneCell' = true := by intro u h; simp [u64C] at h; subst h; rfl
theorem info_u64 : (Try.prog.info? 33).map (fun i => (i.zero, i.size, i.bytes)) = some (some (.int .u64 0), 1, 8) := by kernel_rfl
/-- n numbers that are nought -/
def zeros64 (n : Nat) : Array Value := madeCells #[.int .u64 0] n
theorem zeros64_get (n k : Nat) (h : k < n) : (zeros64 n)[k]? = some (.int .u64 0) := by
  rw [← Array.getElem?_toList, zeros64, toList_madeCells_one, List.getElem?_replicate_of_lt h]
theorem zeros64_size (n : Nat) : (zeros64 n).size = n := size_madeCells _ _
theorem run_zeros64 (n : Nat) (w : World) (h : n ≤ 1000) : (Instr.makeSlice 32 (.int .i64 (n : Int)) (.int .i64 (n : Int))).run Try.prog w = .ok (.slice (some ⟨w.heap.size, 0, none⟩) n n) (w.alloc (.cells (zeros64 n) 33)) := by
  obtain ⟨i0, hi, hz0, hz1, hz2⟩ := info_parts info_u64
  have := run_make (P := Try.prog) w 32 33 i0 (.int .u64 0) Try.underlying32 hi hz0 .i64 .i64 n n (by omega) (by omega) (by rw [hz2]; omega) (by omega)
  rw [hz1, Nat.mul_one] at this
  simpa [zeros64, Value.cells] using this
/-- block g is a row of n numbers, number j of them f j -/
def TbAt (w : World) (g n : Nat) (f : Nat → Nat) : Prop := ∃ C : Array Value, w.heap[g]? = some (.cells C 33 (0, 0)) ∧ C.size = n ∧ ∀ j, j < n → C[j]? = some (.int .u64 (f j : Int))
theorem TbAt.below {w w' : World} {g n : Nat} {f : Nat → Nat} (h : TbAt w g n f) (hb : Below w.heap.size w w') : TbAt w' g n f := by
  obtain ⟨C, h1, h2⟩ := h
  exact ⟨C, blk_keep hb h1, h2⟩
theorem TbAt.drew {w : World} {g n : Nat} {f : Nat → Nat} (h : TbAt w g n f) : TbAt w.drew g n f := h
theorem TbAt.lt {w : World} {g n : Nat} {f : Nat → Nat} (h : TbAt w g n f) : g < w.heap.size := by
  obtain ⟨C, h1, _⟩ := h
  exact blk_lt h1
theorem TbAt.cell {w : World} {g n : Nat} {f : Nat → Nat} (h : TbAt w g n f) {j : Nat} (hj : j < n) : w.cell? ⟨g, j, none⟩ = some (.int .u64 (f j : Int)) := by
  obtain ⟨C, h1, _, h2⟩ := h
  exact blk_cell h1 j _ (h2 j hj)
theorem TbAt.free {w : World} {g n : Nat} {f : Nat → Nat} (h : TbAt w g n f) (j : Nat) : w.frozen? ⟨g, j, none⟩ = false := by
  obtain ⟨C, h1, _⟩ := h
  exact blk_free h1 j
theorem TbAt.set {w : World} {g n : Nat} {f f' : Nat → Nat} (h : TbAt w g n f) {i v : Nat} (hv : f' i = v) (hf : ∀ j, j < n → j ≠ i → f' j = f j) : TbAt (w.setCell ⟨g, i, none⟩ (.int .u64 (v : Int))) g n f' := by
  obtain ⟨C, h1, h2, h3⟩ := h
  refine ⟨C.setIfInBounds i (.int .u64 (v : Int)), blk_set h1 i _, by simpa using h2, fun j hj => ?_⟩
  by_cases hij : i = j
  · subst hij
    rw [Array.getElem?_setIfInBounds_self_of_lt (by omega), hv]
  · rw [Array.getElem?_setIfInBounds_ne hij, h3 j hj, hf j hj (fun e => hij e.symm)]
theorem TbAt.congr {w : World} {g n : Nat} {f f' : Nat → Nat} (h : TbAt w g n f) (hf : ∀ j, j < n → f' j = f j) : TbAt w g n f' := by
  obtain ⟨C, h1, h2, h3⟩ := h
  exact ⟨C, h1, h2, fun j hj => by rw [h3 j hj, hf j hj]⟩
theorem TbAt.made (w : World) (n : Nat) (f : Nat → Nat) (hf : ∀ j, j < n → f j = 0) : TbAt (w.alloc (.cells (zeros64 n) 33)) w.heap.size n f :=
  ⟨zeros64 n, alloc1 w _ (Below.refl _ _), zeros64_size n, fun j hj => by rw [zeros64_get n j hj, hf j hj]; rfl⟩
theorem TbAt.sl {w : World} {g n : Nat} {f : Nat → Nat} (h : TbAt w g n f) (hn : n ≤ 1000) : SlAt 1 u64C w ⟨some ⟨g, 0, none⟩, n, (List.range n).map f⟩ := by
  refine ⟨.inr ⟨g, 0, rfl, fun i c hi j v hv => ?_⟩, by simp, by show n ≤ maxLen; unfold maxLen; omega, fun h => by cases h⟩
  have hlt : i < n := by
    have := (List.getElem?_eq_some_iff.1 hi).1
    simpa using this
  simp [hlt] at hi
  subst hi
  obtain rfl : j = 0 := by have := (List.getElem?_eq_some_iff.1 hv).1; simp [u64C] at this; omega
  have hv' : Value.int .u64 (f i : Int) = v := by simpa [u64C] using hv
  rw [← hv', Nat.zero_add, Nat.mul_one, Nat.add_zero]
  exact h.cell hlt
def tabL (L : Lay) : List Nat := if (checkS L).1 = 0 then tabS L else []
attribute [local irreducible] hasI hasP dupI dupN okPt okPts secOf formedS Sl.v cntI ixF mayS conflictS pairS checkS growS rowS tabS cfS withBit pw zeros64 TbAt

set_option maxHeartbeats 8000000 in
theorem table_is (L : Lay) (w : World) (hL : LayAt w L) :
    Calls Try.prog 20 #[.agg #[L.se.v, L.po.v, L.sg.v, L.rt.v]] w fun e w' => ∃ a m c, e = .returned (.tuple #[.slice a m c, .int .i64 (checkS L).1]) ∧ m = (tabL L).length ∧ SlAt 1 u64C w' ⟨a, c, tabL L⟩ ∧ Below w.heap.size w w' := by
  obtain ⟨c, hc1⟩ : ∃ c, (checkS L).1 = c := ⟨_, rfl⟩
  obtain ⟨d, hd1⟩ : ∃ c, (checkS L).2 = c := ⟨_, rfl⟩
  have HCK : Hid (∀ W, Below w.heap.size w W → Calls Try.prog 40 #[.agg #[L.se.v, L.po.v, L.sg.v, L.rt.v]] W fun e w' => e = .returned (.tuple #[.int .i64 c, .int .i64 d]) ∧ Below W.heap.size W w') := Lib.hid (fun W hW => hc1 ▸ hd1 ▸ check_is L W (hL.below hW))
  have HCF : Hid (mayS L = true → ∀ x ∈ L.rt.l, ∀ y ∈ L.rt.l, ∀ W, Below w.heap.size w W → Calls Try.prog 41 #[.agg #[L.se.v, L.po.v, L.sg.v, L.rt.v], .agg #[.string x.nm, .int .i64 x.sg, x.pa.v, x.po.v, x.ov.v, x.fl.v], .agg #[.string y.nm, .int .i64 y.sg, y.pa.v, y.po.v, y.ov.v, y.fl.v]] W fun e w' => e = .returned (.bool (conflictS L x y)) ∧ Below W.heap.size W w') := Lib.hid (fun hmay x hx y hy W hW => conflict_may L x y W hmay (hL.below hW) hx hy)
  have HROW := Lib.hid hL.rt.row
  have HC1 := Lib.hid hc1
  clear hd1
  obtain ⟨n1, hn1⟩ : ∃ n, L.se.l.length = n := ⟨_, rfl⟩
  obtain ⟨n2, hn2⟩ : ∃ n, L.po.l.length = n := ⟨_, rfl⟩
  obtain ⟨n3, hn3⟩ : ∃ n, L.sg.l.length = n := ⟨_, rfl⟩
  obtain ⟨n4, hn4⟩ : ∃ n, L.rt.l.length = n := ⟨_, rfl⟩
  have HN4 := Lib.hid hn4
  rw [hc1]
  rw [slv hn1, slv hn2, slv hn3, slv hn4] at HCK HCF ⊢
  clear hn1 hn2 hn3 hn4 hL hc1
  obtain ⟨gl, hgl⟩ : ∃ g, g = w.heap.size := ⟨_, rfl⟩
  have HGL := Lib.hid hgl
  clear hgl
  go_enter Try.func20, Try.ntmps20
  go_wp2_with fail
  refine (HCK.out _ (below1 w _)).mono ?_
  rintro e w1 ⟨rfl, hb1⟩
  have hq := blk_keep hb1 (alloc1 w (.cells #[.slice L.se.a n1 L.se.c, .slice L.po.a n2 L.po.c, .slice L.sg.a n3 L.sg.c, .slice L.rt.a n4 L.rt.c] 27) (Below.refl _ _))
  have hbw := below_on (below1 w _) hb1
  rw [← HGL.out] at hq ⊢
  have HB1 := Lib.hid hbw
  have HQ := Lib.hid hq
  clear hb1 hbw hq HCK
  by_cases hc0 : c = 0
  rotate_left
  · have HT : Hid (tabL L = []) := Lib.hid (by unfold tabL; rw [HC1.out, if_neg hc0])
    go_wp2_with fail
    go_ret2
    exact ⟨none, 0, 0, rfl, by rw [HT.out]; rfl, by rw [HT.out]; exact sl_none, HB1.out⟩
  subst hc0
  have HT : Hid (tabL L = tabS L) := Lib.hid (by unfold tabL; rw [HC1.out, if_pos rfl])
  have HM : Hid (mayS L = true) := Lib.hid (cs_zero HC1.out)
  have HS : Hid (n4 ≤ 64) := Lib.hid (by have := mayS_small HM.out; have := HN4.out; omega)
  have hmk := fun W => run_zeros64 n4 W (by have := HS.out; omega)
  have l3 := blk_cell HQ.out 3 _ rfl
  have l3b := blk_cell (blk_keep (below1 w1 (.cells (zeros64 n4) 33)) HQ.out) 3 _ rfl
  go_wp2_with fail
  have hT0 := TbAt.made w1 n4 (growS L 0 0) (fun j _ => growS_start L j)
  have hbz := below1 w1 (.cells (zeros64 n4) 33)
  obtain ⟨w2, hw2⟩ : ∃ W, W = w1.alloc (.cells (zeros64 n4) 33) := ⟨_, rfl⟩
  rw [← hw2] at hT0 hbz ⊢
  obtain ⟨go, hgo⟩ : ∃ g, g = w1.heap.size := ⟨_, rfl⟩
  have HGW : Hid (w.heap.size ≤ go ∧ gl < go) := Lib.hid (by have := HB1.out.size; have := blk_lt HQ.out; omega)
  rw [← hgo] at hT0 ⊢
  have HT0 := Lib.hid hT0
  have HB2 := Lib.hid (below_on HB1.out hbz)
  have HQ2 := Lib.hid (blk_keep hbz HQ.out)
  clear hT0 hbz hw2 hgo HB1 HQ l3 l3b hmk
  go_loopg [25] n4 (fun g i wr => ∃ k : Nat, k + g = n4 ∧ i = .int .i64 (k : Int) ∧ TbAt wr go n4 (growS L k 0) ∧ wr.heap[gl]? = some (.cells #[.slice L.se.a n1 L.se.c, .slice L.po.a n2 L.po.c, .slice L.sg.a n3 L.sg.c, .slice L.rt.a n4 L.rt.c] 27) ∧ Below w.heap.size w wr)
  case atStart => exact ⟨0, by omega, rfl, HT0.out, HQ2.out, HB2.out⟩
  case round =>
    obtain ⟨i, hi, rfl, ht, hq, hbw⟩ := hrel
    clear HT0 HB2 HQ2
    have HT1 := Lib.hid ht
    have HQ := Lib.hid hq
    have HB1 := Lib.hid hbw
    clear ht hq hbw
    by_cases hlt : i < n4
    · have d1 : (0 : Int) ≤ i := by omega
      have d2 : (i : Int) < n4 := by omega
      have e1 := wsucc hlt HS.out
      have HI := Lib.hid hi
      have HLT := Lib.hid hlt
      rcases HROW.out with hnil | ⟨xb, off, hxb, hc0⟩
      · have := HN4.out; rw [hnil] at this; simp at this; omega
      have HCE := Lib.hid hc0
      have hc := fun i c hi j v hv => cell_later HB1.out (hc0 i c hi j v hv)
      obtain ⟨x, hyx⟩ : ∃ y, L.rt.l[i]? = some y := ⟨_, List.getElem?_eq_getElem (by rw [HN4.out]; exact hlt)⟩
      have z0 := hc i _ hyx 0 _ rfl
      have z1 := hc i _ hyx 1 _ rfl
      have z2 := hc i _ hyx 2 _ rfl
      have z3 := hc i _ hyx 3 _ rfl
      have z4 := hc i _ hyx 4 _ rfl
      have z5 := hc i _ hyx 5 _ rfl
      rw [Nat.add_zero] at z0
      obtain ⟨p1, hp1⟩ : ∃ n, x.pa.l.length = n := ⟨_, rfl⟩
      obtain ⟨p2, hp2⟩ : ∃ n, x.po.l.length = n := ⟨_, rfl⟩
      obtain ⟨p3, hp3⟩ : ∃ n, x.ov.l.length = n := ⟨_, rfl⟩
      obtain ⟨p4, hp4⟩ : ∃ n, x.fl.l.length = n := ⟨_, rfl⟩
      rw [slv hp1] at z2
      rw [slv hp2] at z3
      rw [slv hp3] at z4
      rw [slv hp4] at z5
      have HZA := Lib.hid (And.intro z0 (And.intro z1 (And.intro z2 (And.intro z3 (And.intro z4 z5)))))
      clear z0 z1 z2 z3 z4 z5
      obtain ⟨z0, z1, z2, z3, z4, z5⟩ := HZA.out
      have HYX := Lib.hid hyx
      obtain ⟨X, hX⟩ : ∃ x, L.rt.a = x := ⟨_, rfl⟩
      have HXX := Lib.hid hX
      rw [hX] at HQ HCF hxb ⊢
      subst hxb
      have HCX : Hid (∀ y ∈ L.rt.l, ∀ W, Below w.heap.size w W → Calls Try.prog 41 #[.agg #[.slice L.se.a n1 L.se.c, .slice L.po.a n2 L.po.c, .slice L.sg.a n3 L.sg.c, .slice (some ⟨xb, off, none⟩) n4 L.rt.c], .agg #[.string x.nm, .int .i64 x.sg, .slice x.pa.a p1 x.pa.c, .slice x.po.a p2 x.po.c, .slice x.ov.a p3 x.ov.c, .slice x.fl.a p4 x.fl.c], .agg #[.string y.nm, .int .i64 y.sg, y.pa.v, y.po.v, y.ov.v, y.fl.v]] W fun e w' => e = .returned (.bool (conflictS L x y)) ∧ Below W.heap.size W w') := Lib.hid (fun y hy W hW => by
        have := HCF.out HM.out x (List.mem_of_getElem? HYX.out) y hy W hW
        rw [slv hp1, slv hp2, slv hp3, slv hp4] at this
        exact this)
      clear hi hlt hc hyx hX hc0 HCF hp1 hp2 hp3 hp4
      go_upto_region 9 with fail
      clear z0 z1 z2 z3 z4 z5 HZA
      obtain ⟨wq, rfl⟩ : ∃ wq, wq = wr := ⟨_, rfl⟩
      have hbx := below1 wq (.cells #[.string x.nm, .int .i64 x.sg, .slice x.pa.a p1 x.pa.c, .slice x.po.a p2 x.po.c, .slice x.ov.a p3 x.ov.c, .slice x.fl.a p4 x.fl.c] 61)
      have hqx := alloc1 wq (.cells #[.string x.nm, .int .i64 x.sg, .slice x.pa.a p1 x.pa.c, .slice x.po.a p2 x.po.c, .slice x.ov.a p3 x.ov.c, .slice x.fl.a p4 x.fl.c] 61) (Below.refl _ _)
      obtain ⟨w3, hw3⟩ : ∃ W, W = wq.alloc (.cells #[.string x.nm, .int .i64 x.sg, .slice x.pa.a p1 x.pa.c, .slice x.po.a p2 x.po.c, .slice x.ov.a p3 x.ov.c, .slice x.fl.a p4 x.fl.c] 61) := ⟨_, rfl⟩
      rw [← hw3] at hbx hqx ⊢
      obtain ⟨gx, hgx⟩ : ∃ g, g = wq.heap.size := ⟨_, rfl⟩
      have HGX : Hid (go < gx ∧ gl < gx ∧ w.heap.size ≤ gx) := Lib.hid (by have := HT1.out.lt; have := blk_lt HQ.out; have := HB1.out.size; omega)
      rw [← hgx] at hqx ⊢
      have HT3 := Lib.hid (HT1.out.below hbx)
      have HQ3 := Lib.hid (blk_keep hbx HQ.out)
      have HX3 := Lib.hid hqx
      have HB3 := Lib.hid (below_on HB1.out hbx)
      clear hbx hqx hw3 hgx HT1 HQ HB1
      go_loopg [31] i (fun g j wr => ∃ k : Nat, k + g = i ∧ j = .int .i64 (k : Int) ∧ TbAt wr go n4 (growS L i k) ∧ wr.heap[gl]? = some (.cells #[.slice L.se.a n1 L.se.c, .slice L.po.a n2 L.po.c, .slice L.sg.a n3 L.sg.c, .slice (some ⟨xb, off, none⟩) n4 L.rt.c] 27) ∧ wr.heap[gx]? = some (.cells #[.string x.nm, .int .i64 x.sg, .slice x.pa.a p1 x.pa.c, .slice x.po.a p2 x.po.c, .slice x.ov.a p3 x.ov.c, .slice x.fl.a p4 x.fl.c] 61) ∧ Below w.heap.size w wr)
      case atStart => exact ⟨0, by omega, rfl, HT3.out, HQ3.out, HX3.out, HB3.out⟩
      case round =>
        obtain ⟨k, hk, rfl, ht, hq, hqx, hbw⟩ := hrel
        clear HT3 HQ3 HX3 HB3
        have HT1 := Lib.hid ht
        have HQ := Lib.hid hq
        have HX := Lib.hid hqx
        have HB1 := Lib.hid hbw
        clear ht hq hqx hbw
        have HK := Lib.hid hk
        by_cases hlk : k < i
        · have d3 : (0 : Int) ≤ k := by omega
          have d4 : (k : Int) < i := by omega
          have d5 : (k : Int) < n4 := by omega
          have e2 := wsucc (Nat.lt_trans hlk HLT.out) HS.out
          have hkn : k < n4 := Nat.lt_trans hlk HLT.out
          have HLK := Lib.hid hlk
          have hc := fun i c hi j v hv => cell_later HB1.out (HCE.out i c hi j v hv)
          obtain ⟨y, hyy⟩ : ∃ y, L.rt.l[k]? = some y := ⟨_, List.getElem?_eq_getElem (by rw [HN4.out]; exact hkn)⟩
          have y0 := hc k _ hyy 0 _ rfl
          have y1 := hc k _ hyy 1 _ rfl
          have y2 := hc k _ hyy 2 _ rfl
          have y3 := hc k _ hyy 3 _ rfl
          have y4 := hc k _ hyy 4 _ rfl
          have y5 := hc k _ hyy 5 _ rfl
          rw [Nat.add_zero] at y0
          obtain ⟨q1, hq1⟩ : ∃ n, y.pa.l.length = n := ⟨_, rfl⟩
          obtain ⟨q2, hq2⟩ : ∃ n, y.po.l.length = n := ⟨_, rfl⟩
          obtain ⟨q3, hq3⟩ : ∃ n, y.ov.l.length = n := ⟨_, rfl⟩
          obtain ⟨q4, hq4⟩ : ∃ n, y.fl.l.length = n := ⟨_, rfl⟩
          rw [slv hq1] at y2
          rw [slv hq2] at y3
          rw [slv hq3] at y4
          rw [slv hq4] at y5
          have HZB := Lib.hid (And.intro y0 (And.intro y1 (And.intro y2 (And.intro y3 (And.intro y4 y5)))))
          clear y0 y1 y2 y3 y4 y5
          have hcall := fun W (hW : Below wr.heap.size wr W) => HCX.out y (List.mem_of_getElem? hyy) W (below_on HB1.out hW)
          have hcf := cfS_at HYX.out hyy
          obtain ⟨D, hD⟩ : ∃ D, conflictS L x y = D := ⟨_, rfl⟩
          rw [hD] at hcall hcf
          have HCD := Lib.hid hcf
          rw [slv hq1, slv hq2, slv hq3, slv hq4] at hcall
          have HC : Hid (∀ W, Below wr.heap.size wr W → Calls Try.prog 41 #[.agg #[.slice L.se.a n1 L.se.c, .slice L.po.a n2 L.po.c, .slice L.sg.a n3 L.sg.c, .slice (some ⟨xb, off, none⟩) n4 L.rt.c], .agg #[.string x.nm, .int .i64 x.sg, .slice x.pa.a p1 x.pa.c, .slice x.po.a p2 x.po.c, .slice x.ov.a p3 x.ov.c, .slice x.fl.a p4 x.fl.c], .agg #[.string y.nm, .int .i64 y.sg, .slice y.pa.a q1 y.pa.c, .slice y.po.a q2 y.po.c, .slice y.ov.a q3 y.ov.c, .slice y.fl.a q4 y.fl.c]] W fun e w' => e = .returned (.bool D) ∧ Below wr.heap.size wr w') := Lib.hid (fun W hW => (hcall W hW).mono (fun e w9 h => ⟨h.1, below_on hW h.2⟩))
          clear hcall hcf hD hyy hc hkn hlk hk hq1 hq2 hq3 hq4
          go_upto_region 11 with fail
          refine wp_region_calm (by kernel_rfl) ?_ ?_
          · kernel_rfl
          repeat first
           | go_big_quiet_skip
           | (go_big_quiet_want; go_big_quiet_op; go_big_quiet_on)
           | (with_reducible apply wpQuiet_step
              intro K hK
              go_simp
              first
                | (refine hK _ ?_; clear hK K)
                | (apply Exists.intro
                   refine ⟨fun w' hw' => ?_, hK _ ?_⟩
                   ·
                     (first
                      | with_reducible exact HC.out _ hw'
                      | (have g0 := blk_cell (blk_keep hw' HQ.out) 0 _ rfl
                         have g1 := blk_cell (blk_keep hw' HQ.out) 1 _ rfl
                         have g2 := blk_cell (blk_keep hw' HQ.out) 2 _ rfl
                         have g3 := blk_cell (blk_keep hw' HQ.out) 3 _ rfl
                         go_simp
                         first | done | with_reducible exact rfl | with_reducible exact ⟨rfl, rfl⟩ | with_reducible exact HC.out _ hw')
                      | (have h0 := blk_cell (blk_keep hw' HX.out) 0 _ rfl
                         have h1 := blk_cell (blk_keep hw' HX.out) 1 _ rfl
                         have h2 := blk_cell (blk_keep hw' HX.out) 2 _ rfl
                         have h3 := blk_cell (blk_keep hw' HX.out) 3 _ rfl
                         have h4 := blk_cell (blk_keep hw' HX.out) 4 _ rfl
                         have h5 := blk_cell (blk_keep hw' HX.out) 5 _ rfl
                         go_simp
                         first | done | with_reducible exact rfl | with_reducible exact ⟨rfl, rfl⟩ | with_reducible exact HC.out _ hw')
                      | (have f0 := cell_later hw' HZB.out.1
                         have f1 := cell_later hw' HZB.out.2.1
                         have f2 := cell_later hw' HZB.out.2.2.1
                         have f3 := cell_later hw' HZB.out.2.2.2.1
                         have f4 := cell_later hw' HZB.out.2.2.2.2.1
                         have f5 := cell_later hw' HZB.out.2.2.2.2.2
                         go_simp
                         first | done | with_reducible exact rfl | with_reducible exact ⟨rfl, rfl⟩ | with_reducible exact HC.out _ hw'))
                   clear hK K))
          refine wpQuiet_nil ?_
          intro w7 hw7
          have HB7 := Lib.hid (below_on HB1.out hw7)
          have HQ7 := Lib.hid (blk_keep hw7 HQ.out)
          have HX7 := Lib.hid (blk_keep hw7 HX.out)
          have HT7 := Lib.hid (HT1.out.below hw7)
          clear hw7
          clear HT1 HQ HX HB1 HC HZB
          cases D with
          | false =>
            go_wp2_with fail
            go_roundg (i - (k + 1))
            case rel => exact ⟨k + 1, by have := HK.out; omega, by go_num, HT7.out.congr (fun j _ => growS_no HLK.out HCD.out j), HQ7.out, HX7.out, HB7.out⟩
            case measure => have := HK.out; omega
          | true =>
            obtain ⟨A, hA⟩ : ∃ A, growS L i k i = A := ⟨_, rfl⟩
            obtain ⟨P, hP⟩ : ∃ P, pw k = P := ⟨_, rfl⟩
            have c1 := HT7.out.cell HLT.out
            rw [hA] at c1
            have f1 := HT7.out.free i
            obtain ⟨hs1, ho1⟩ := or_step (s := A) (n := k) (by have := HS.out; omega) (by rw [← hA]; exact growS_lt (by have := HS.out; have := HN4.out; omega) _ _ _)
            have hu1 := growS_i HLK.out (by have := HLT.out; have := HN4.out; omega) HCD.out
            rw [hA] at hu1
            rw [hu1] at ho1
            obtain ⟨A1, hA1⟩ : ∃ A, growS L i (k + 1) i = A := ⟨_, rfl⟩
            rw [hA1] at ho1 hu1
            rw [hP] at hs1 ho1
            have HA1 := Lib.hid hA1
            have hk64 : min k 64 = k := by have := HS.out; have := HLT.out; have := HLK.out; omega
            clear hA hu1 hA1 hP
            go_upto_region 12 with fail
            go_region
            obtain ⟨w8, hw8⟩ : ∃ W, W = (w7.setCell ⟨go, i, none⟩ (.int .u64 (A1 : Int))).drew := ⟨_, rfl⟩
            rw [← hw8]
            have ho8 : Only go w7 w8 := by rw [hw8]; exact ((Only.refl go w7).setCell rfl _).drew
            have ht8 : TbAt w8 go n4 (fun j => if j = i then A1 else growS L i k j) := by
              rw [hw8]
              exact TbAt.drew (HT7.out.set (by simp) (fun j _ hj => by simp [hj]))
            have HT8 := Lib.hid ht8
            have HQ8 := Lib.hid (ho8.keep (by have := HGW.out; omega) HQ7.out)
            have HX8 := Lib.hid (ho8.keep (by have := HGX.out; omega) HX7.out)
            have HB8 := Lib.hid (Only.below HB7.out HGW.out.1 HB7.out.size ho8)
            have hki : k ≠ i := by have := HLK.out; omega
            have c2 := ht8.cell (Nat.lt_trans HLK.out HLT.out)
            rw [if_neg hki] at c2
            have f2 := ht8.free k
            obtain ⟨C, hC⟩ : ∃ C, growS L i k k = C := ⟨_, rfl⟩
            rw [hC] at c2
            obtain ⟨P2, hP2⟩ : ∃ P, pw i = P := ⟨_, rfl⟩
            obtain ⟨hs2, ho2⟩ := or_step (s := C) (n := i) (by have := HS.out; have := HLT.out; omega) (by rw [← hC]; exact growS_lt (by have := HS.out; have := HN4.out; omega) _ _ _)
            have hu2 := growS_k HLK.out (by have := HLT.out; have := HN4.out; omega) HCD.out
            rw [hC] at hu2
            rw [hu2] at ho2
            obtain ⟨C1, hC1⟩ : ∃ A, growS L i (k + 1) k = A := ⟨_, rfl⟩
            rw [hC1] at ho2 hu2
            rw [hP2] at hs2 ho2
            have hi64 : min i 64 = i := by have := HS.out; have := HLT.out; omega
            have HC1 := Lib.hid hC1
            have HKI := Lib.hid hki
            clear hC hu2 hC1 hP2 c1 f1 hs1 ho1 hk64 hw8 ho8 ht8 hki HT7 HQ7 HX7 HB7
            go_upto_region 13 with fail
            go_region
            obtain ⟨w9, hw9⟩ : ∃ W, W = (w8.setCell ⟨go, k, none⟩ (.int .u64 (C1 : Int))).drew := ⟨_, rfl⟩
            rw [← hw9]
            have ho9 : Only go w8 w9 := by rw [hw9]; exact ((Only.refl go w8).setCell rfl _).drew
            have ht9 : TbAt w9 go n4 (growS L i (k + 1)) := by
              rw [hw9]
              refine TbAt.drew (HT8.out.set (i := k) HC1.out (fun j hj hjk => ?_))
              by_cases hji : j = i
              · rw [if_pos hji, hji, HA1.out]
              · rw [if_neg hji, growS_same hji hjk]
            have HT9 := Lib.hid ht9
            have HQ9 := Lib.hid (ho9.keep (by have := HGW.out; omega) HQ8.out)
            have HX9 := Lib.hid (ho9.keep (by have := HGX.out; omega) HX8.out)
            have HB9 := Lib.hid (Only.below HB8.out HGW.out.1 HB8.out.size ho9)
            clear hw9 ho9 ht9 c2 f2 hs2 ho2 hi64 HT8 HQ8 HX8 HB8
            go_wp2_with fail
            go_roundg (i - (k + 1))
            case rel => exact ⟨k + 1, by have := HK.out; omega, by go_num, HT9.out, HQ9.out, HX9.out, HB9.out⟩
            case measure => have := HK.out; omega
        · have hik : i = k := by omega
          subst hik
          have HTE := Lib.hid (HT1.out.congr (f' := growS L (i + 1) 0) (fun j _ => (growS_turn L i j).symm))
          clear HT1 HX hk
          go_wp2_with fail
          rw [← HXX.out]
          go_roundg (n4 - (i + 1))
          case rel => exact ⟨i + 1, by have := HI.out; omega, by go_num, HTE.out, by rw [HXX.out]; exact HQ.out, HB1.out⟩
          case measure => have := HI.out; omega
    · have hni : n4 = i := by omega
      subst hni
      have HTE := Lib.hid (HT1.out.congr (f' := rowS L) (fun j hj => by rw [← HN4.out] at hj ⊢; exact (growS_end L j hj).symm))
      clear HT1 hi
      go_wp2_with fail
      go_ret2
      refine ⟨_, _, _, rfl, ?_, ?_, HB1.out⟩
      · rw [HT.out, tabS_len, HN4.out]
      · have := HTE.out.sl (by have := HS.out; omega)
        rw [HT.out]
        unfold tabS
        rw [HN4.out]
        exact this
end Go.Proofs.Ytififkielmddpaa
