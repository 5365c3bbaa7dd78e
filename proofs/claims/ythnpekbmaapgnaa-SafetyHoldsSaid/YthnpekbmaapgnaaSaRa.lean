/-
 Layer 29: the first cycle that is wrong.
-/
import Derived.Test.YthnpekbmaapgnaaSaQa
namespace Go.Proofs.Ythnpekbmaapgnaa
open Go.RowKit
set_option maxRecDepth 100000
attribute [local irreducible] ixF Sl.v pairS hasBit mayS Rt.tr Rt.nd checkS pw claI occS lieS turS shI shR withBit outSA cycS conflictS
attribute [local irreducible] fstS cycI

set_option maxHeartbeats 8000000 in
theorem srow_is (a : Int) (v : Nat) (L : Lay) (X : List Ip) (Y : List Op) (xa ya : Option Addr) (m n xc yc : Nat) (hav : fstS (cycI L X Y) (min m n) = (a, v)) (hX : ∀ x ∈ X, x.ok) (hY : ∀ y ∈ Y, y.ok) (hm : m ≤ 100000) (hn : n ≤ 100000) (hXm : X.length = m) (hYn : Y.length = n) (w : World) (hL : LayAt w L) (hx : RowAt 4 ipC w xa X) (hy : RowAt 2 opC w ya Y) :
 Calls Try.prog 14 #[.agg #[L.se.v, L.po.v, L.sg.v, L.rt.v], .slice xa m xc, .slice ya n yc] w fun e w' => e = .returned (.tuple #[.int .i64 a, .int .u8 (v : Int)]) ∧ Below w.heap.size w w' := by
 have HC : Hid (∀ (i : Nat) (x : Ip) (y : Op), X[i]? = some x → Y[i]? = some y → ∀ V, Below w.heap.size w V → Calls Try.prog 9 #[.agg #[L.se.v, L.po.v, L.sg.v, L.rt.v], .agg #[.int .u64 (x.o : Int), .int .u32 (x.n : Int), .int .u32 (x.r : Int), .slice x.a x.len x.cap], .agg #[.int .u64 (y.p : Int), .int .u32 (y.q : Int)]] V fun e w' => e = .returned (.int .u8 (cycI L X Y i : Int)) ∧ Below V.heap.size V w') := Lib.hid (fun i x y hi hj V hV => by
  obtain ⟨b1, b2, b3⟩ := hX x (List.mem_of_getElem? hi)
  obtain ⟨b4, b5⟩ := hY y (List.mem_of_getElem? hj)
  exact scycle_is (cycI L X Y i) L x.o x.n x.r y.p y.q (x.n &&& (4294967295 - x.r)) (x.r &&& (4294967295 - x.n)) x.a x.len x.cap b1 b4 b5 (u32_andNot_nat _ _ b2 b3) (u32_andNot_nat _ _ b3 b2) (Nat.lt_of_le_of_lt Nat.and_le_left b2) (Nat.lt_of_le_of_lt Nat.and_le_left b3) (cycI_at hi hj).symm V (hL.below hV))
 obtain ⟨N, hN⟩ : ∃ N, min m n = N := ⟨_, rfl⟩
 have HNN := Lib.hid hN
 have HMIN : Hid (min (m : Int) (n : Int) = (N : Int)) := Lib.hid (by rw [← hN]; omega)
 have HM := Lib.hid hm
 have HN := Lib.hid hn
 have HXM := Lib.hid hXm
 have HYN := Lib.hid hYn
 rw [hN] at hav
 have HAV := Lib.hid hav
 obtain ⟨G, hG⟩ : ∃ G, cycI L X Y = G := ⟨_, rfl⟩
 rw [hG] at HC HAV
 have HRX := Lib.hid hx
 have HRY := Lib.hid hy
 obtain ⟨n1, hs1⟩ : ∃ n, L.se.l.length = n := ⟨_, rfl⟩
 obtain ⟨n2, hs2⟩ : ∃ n, L.po.l.length = n := ⟨_, rfl⟩
 obtain ⟨n3, hs3⟩ : ∃ n, L.sg.l.length = n := ⟨_, rfl⟩
 obtain ⟨n4, hs4⟩ : ∃ n, L.rt.l.length = n := ⟨_, rfl⟩
 rw [slv hs1, slv hs2, slv hs3, slv hs4] at HC
 rw [slv hs1, slv hs2, slv hs3, slv hs4]
 clear hs1 hs2 hs3 hs4 hL hX hY hm hn hXm hYn hx hy hav hN hG
 go_enter Try.func14, Try.ntmps14
 go_upto_region 1 with fail
 have hbw := below1 w (.cells #[.slice L.se.a n1 L.se.c, .slice L.po.a n2 L.po.c, .slice L.sg.a n3 L.sg.c, .slice L.rt.a n4 L.rt.c] 27)
 have hq := alloc1 w (.cells #[.slice L.se.a n1 L.se.c, .slice L.po.a n2 L.po.c, .slice L.sg.a n3 L.sg.c, .slice L.rt.a n4 L.rt.c] 27) (Below.refl _ _)
 obtain ⟨W, hW⟩ : ∃ W, W = w.alloc (.cells #[.slice L.se.a n1 L.se.c, .slice L.po.a n2 L.po.c, .slice L.sg.a n3 L.sg.c, .slice L.rt.a n4 L.rt.c] 27) := ⟨_, rfl⟩
 rw [← hW] at hbw hq ⊢
 obtain ⟨gl, hgl⟩ : ∃ g, g = w.heap.size := ⟨_, rfl⟩
 rw [← hgl] at hq ⊢
 have HB0 : Hid (Below w.heap.size w W) := Lib.hid hbw
 have HQ := Lib.hid hq
 clear hbw hq hW hgl
 have hmin := HMIN.out
 go_upto_region 2 with fail
 go_loopg [15] N (fun g v wr => ∃ i : Nat, i + g = N ∧ v = .int .i64 (i : Int) ∧ (∀ j, j < i → G j = 0) ∧ Below W.heap.size W wr)
 case atStart => exact ⟨0, by omega, rfl, fun j hj => absurd hj (Nat.not_lt_zero j), Below.refl _ _⟩
 case round =>
  obtain ⟨i, hi, rfl, ho, hbw⟩ := hrel
  have HI := Lib.hid hi
  have HF := Lib.hid ho
  have HB := Lib.hid hbw
  clear hi ho hbw
  try clear hmin
  by_cases hlt : i < N
  ·have hlm : i < m := by have := HNN.out; omega
   have hln : i < n := by have := HNN.out; omega
   have d1 : (0 : Int) ≤ i := by omega
   have d2 : (i : Int) < m := by omega
   have d3 : (i : Int) < n := by omega
   have d4 : (i : Int) < N := by omega
   have e1 := sa_wsucc hlm (Nat.le_trans HM.out (by decide))
   have HLT := Lib.hid hlt
   obtain ⟨x, hx⟩ : ∃ x, X[i]? = some x := ⟨_, List.getElem?_eq_getElem (by rw [HXM.out]; exact hlm)⟩
   obtain ⟨y, hy⟩ : ∃ y, Y[i]? = some y := ⟨_, List.getElem?_eq_getElem (by rw [HYN.out]; exact hln)⟩
   obtain ⟨XA, hXA⟩ : ∃ x, xa = x := ⟨_, rfl⟩
   obtain ⟨YA, hYA⟩ : ∃ x, ya = x := ⟨_, rfl⟩
   have HXX := Lib.hid hXA
   have HYY := Lib.hid hYA
   have hrx := HRX.out
   have hry := HRY.out
   rw [hXA] at hrx ⊢
   rw [hYA] at hry ⊢
   rcases hrx with hnil | ⟨xb, xo, hxb, hcx⟩
   ·rw [hnil] at hx; cases hx
   rcases hry with hnil | ⟨yb, yo, hyb, hcy⟩
   ·rw [hnil] at hy; cases hy
   subst hxb
   subst hyb
   have hbb := below_on HB0.out HB.out
   have hc1 := fun i c hi j v hv => cell_later hbb (hcx i c hi j v hv)
   have hc2 := fun i c hi j v hv => cell_later hbb (hcy i c hi j v hv)
   clear hcx hcy
   have p0 := hc1 i _ hx 0 _ rfl
   have p1 := hc1 i _ hx 1 _ rfl
   have p2 := hc1 i _ hx 2 _ rfl
   have p3 := hc1 i _ hx 3 _ rfl
   rw [Nat.add_zero] at p0
   have HPX := Lib.hid (And.intro p0 (And.intro p1 (And.intro p2 p3)))
   clear p0 p1 p2 p3
   have q0 := hc2 i _ hy 0 _ rfl
   have q1 := hc2 i _ hy 1 _ rfl
   rw [Nat.add_zero] at q0
   have HPY := Lib.hid (And.intro q0 q1)
   clear q0 q1
   obtain ⟨r, hr⟩ : ∃ r, G i = r := ⟨_, rfl⟩
   have KC : Hid (∀ w', Below wr.heap.size wr w' → Calls Try.prog 9 #[.agg #[.slice L.se.a n1 L.se.c, .slice L.po.a n2 L.po.c, .slice L.sg.a n3 L.sg.c, .slice L.rt.a n4 L.rt.c], .agg #[.int .u64 (x.o : Int), .int .u32 (x.n : Int), .int .u32 (x.r : Int), .slice x.a x.len x.cap], .agg #[.int .u64 (y.p : Int), .int .u32 (y.q : Int)]] w' fun e w'' => e = .returned (.int .u8 (r : Int)) ∧ Below wr.heap.size wr w'') := Lib.hid (fun w' hw' => by
    have h := HC.out i x y hx hy w' (below_on (below_on HB0.out HB.out) hw')
    rw [hr] at h
    exact h.mono (fun _ _ h => ⟨h.1, below_on hw' h.2⟩))
   have HR := Lib.hid hr
   have HQR := Lib.hid (blk_keep HB.out HQ.out)
   clear hx hy hXA hYA hr hlt hlm hln hc1 hc2 hbb
   go_upto_region 4 with fail
   refine wp_region_calm (by kernel_rfl) ?_ ?_
   ·kernel_rfl
   repeat first
    | go_big_quiet_skip
    | (go_big_quiet_want; go_big_quiet_op; go_big_quiet_on)
    | (with_reducible apply wpQuiet_step
       intro K hK
       go_simp
       first
        | (refine hK _ ?_; clear hK K)
        | (apply Exists.intro
           refine ⟨fun w' hw' => ?_, hK _ ?_⟩
           ·
            (first
             | with_reducible exact KC.out _ hw'
             | (have g0 := blk_cell (blk_keep hw' HQR.out) 0 _ rfl
                have g1 := blk_cell (blk_keep hw' HQR.out) 1 _ rfl
                have g2 := blk_cell (blk_keep hw' HQR.out) 2 _ rfl
                have g3 := blk_cell (blk_keep hw' HQR.out) 3 _ rfl
                go_simp
                first | done | with_reducible exact rfl | with_reducible exact ⟨rfl, rfl⟩ | with_reducible exact KC.out _ hw')
             | (have f0 := cell_later hw' HPX.out.1
                have f1 := cell_later hw' HPX.out.2.1
                have f2 := cell_later hw' HPX.out.2.2.1
                have f3 := cell_later hw' HPX.out.2.2.2
                go_simp
                first | done | with_reducible exact rfl | with_reducible exact ⟨rfl, rfl⟩ | with_reducible exact KC.out _ hw')
             | (have f0 := cell_later hw' HPY.out.1
                have f1 := cell_later hw' HPY.out.2
                go_simp
                first | done | with_reducible exact rfl | with_reducible exact ⟨rfl, rfl⟩ | with_reducible exact KC.out _ hw'))
           clear hK K))
   refine wpQuiet_nil ?_
   intro w7 hw7
   have HB7 := Lib.hid (below_on HB.out hw7)
   clear hw7
   by_cases hr0 : r = 0
   ·have HN1 : Hid (∀ j, j < i + 1 → G j = 0) := Lib.hid (fun j hj => by
     by_cases h : j < i
     ·exact HF.out j h
     ·rw [show j = i by omega, HR.out, hr0])
    have f1 : ((r : Int) == 0) = true := by rw [hr0]; rfl
    clear hr0
    go_wp2_with fail
    rw [← HXX.out, ← HYY.out]
    go_roundg (N - (i + 1))
    case rel => exact ⟨i + 1, sa_next HI.out HLT.out, by go_num, HN1.out, HB7.out⟩
    case measure => exact sa_less HI.out HLT.out
   ·have HAA : Hid ((a, v) = ((i : Int), r)) := Lib.hid (by rw [← HAV.out, fstS_at HLT.out HF.out (by rw [HR.out]; exact hr0), HR.out])
    have f1 : ((r : Int) == 0) = false := by rw [beq_eq_false_iff_ne]; omega
    clear hr0
    go_wp2_with fail
    go_ret2
    have h := HAA.out
    injection h with h1 h2
    subst h1; subst h2
    exact ⟨rfl, below_on HB0.out HB7.out⟩
  ·have HAA : Hid ((a, v) = ((-1 : Int), 0)) := Lib.hid (by rw [← HAV.out, fstS_none (fun j hj => HF.out j (by have := HI.out; omega))])
   have d4 : ¬ (i : Int) < N := by omega
   go_wp2_with fail
   go_ret2
   have h := HAA.out
   injection h with h1 h2
   subst h1; subst h2
   exact ⟨rfl, below_on HB0.out HB.out⟩

end Go.Proofs.Ythnpekbmaapgnaa
