/-
  Layer 29: SafetyRow.
-/
import Derived.Test.YthnpekbmaapgnaaSaR
import Derived.Test.YthnpekbmaapgnaaSaP
namespace Go.Proofs.Ythnpekbmaapgnaa
open Go.RowKit
set_option maxRecDepth 100000
attribute [local irreducible] ixF Sl.v pairS hasBit mayS Rt.tr Rt.nd checkS pw claI occS lieS turS shI shR withBit outS cycS conflictS
attribute [local irreducible] weightS fstS cycI

set_option maxHeartbeats 8000000 in
theorem safetyRow_is (L : Lay) (X : List Ip) (Y : List Op) (xa ya : Option Addr) (m n xc yc : Nat) (hX : ∀ x ∈ X, x.ok) (hY : ∀ y ∈ Y, y.ok) (hXm : X.length = m) (hYn : Y.length = n) (w : World) (hL : LayAt w L) (hx : RowAt 4 ipC w xa X) (hy : RowAt 2 opC w ya Y) :
    Calls Try.prog 5 #[.agg #[L.se.v, L.po.v, L.sg.v, L.rt.v], .slice xa m xc, .slice ya n yc] w fun e w' => e = .returned (.bool true) ∧ Below w.heap.size w w' := by
  obtain ⟨z, hz⟩ : ∃ z, weightS 400 L = z := ⟨_, rfl⟩
  obtain ⟨a, ha⟩ : ∃ a, (fstS (cycI L X Y) (min m n)).1 = a := ⟨_, rfl⟩
  obtain ⟨v, hv⟩ : ∃ a, (fstS (cycI L X Y) (min m n)).2 = a := ⟨_, rfl⟩
  have hav : fstS (cycI L X Y) (min m n) = (a, v) := by rw [← ha, ← hv]
  obtain ⟨n1, hs1⟩ : ∃ n, L.se.l.length = n := ⟨_, rfl⟩
  obtain ⟨n2, hs2⟩ : ∃ n, L.po.l.length = n := ⟨_, rfl⟩
  obtain ⟨n3, hs3⟩ : ∃ n, L.sg.l.length = n := ⟨_, rfl⟩
  obtain ⟨n4, hs4⟩ : ∃ n, L.rt.l.length = n := ⟨_, rfl⟩
  have HR : Hid (m ≤ 100000 → n ≤ 100000 → ∀ V, Below w.heap.size w V → Calls Try.prog 14 #[.agg #[L.se.v, L.po.v, L.sg.v, L.rt.v], .slice xa m xc, .slice ya n yc] V fun e w' => e = .returned (.tuple #[.int .i64 a, .int .u8 (v : Int)]) ∧ Below V.heap.size V w') := Lib.hid (fun hm hn V hV => srow_is a v L X Y xa ya m n xc yc hav hX hY hm hn hXm hYn V (hL.below hV) (hx.below hV) (hy.below hV))
  have HD : Hid (m ≤ 100000 → n ≤ 100000 → ∀ V, Below w.heap.size w V → Calls Try.prog 15 #[.agg #[L.se.v, L.po.v, L.sg.v, L.rt.v], .slice xa m xc, .slice ya n yc] V fun e w' => e = .returned (.tuple #[.int .i64 a, .int .u8 (v : Int)]) ∧ Below V.heap.size V w') := Lib.hid (fun hm hn V hV => rrow_is a v L X Y xa ya m n xc yc hav hX hY hm hn hXm hYn V (hL.below hV) (hx.below hV) (hy.below hV))
  have HW : Hid (∀ V, Below w.heap.size w V → Calls Try.prog 8 #[.agg #[L.se.v, L.po.v, L.sg.v, L.rt.v], .int .i64 400] V fun e w' => e = .returned (.int .i64 z) ∧ Below V.heap.size V w') := Lib.hid (fun V hV' => hz ▸ weight_is 400 L V (hL.below hV'))
  rw [slv hs1, slv hs2, slv hs3, slv hs4] at HR HD HW
  rw [slv hs1, slv hs2, slv hs3, slv hs4]
  clear hs1 hs2 hs3 hs4 hL hX hY hXm hYn hx hy hav ha hv hz
  go_enter Try.func5, Try.ntmps5
  go_upto_region 1 with fail
  have hbw := below1 w (.cells #[.slice L.se.a n1 L.se.c, .slice L.po.a n2 L.po.c, .slice L.sg.a n3 L.sg.c, .slice L.rt.a n4 L.rt.c] 27)
  have hq := alloc1 w (.cells #[.slice L.se.a n1 L.se.c, .slice L.po.a n2 L.po.c, .slice L.sg.a n3 L.sg.c, .slice L.rt.a n4 L.rt.c] 27) (Below.refl _ _)
  obtain ⟨W, hW⟩ : ∃ W, W = w.alloc (.cells #[.slice L.se.a n1 L.se.c, .slice L.po.a n2 L.po.c, .slice L.sg.a n3 L.sg.c, .slice L.rt.a n4 L.rt.c] 27) := ⟨_, rfl⟩
  rw [← hW] at hbw hq ⊢
  obtain ⟨gl, hgl⟩ : ∃ g, g = w.heap.size := ⟨_, rfl⟩
  rw [← hgl] at hq ⊢
  have HB0 : Hid (Below w.heap.size w W) := Lib.hid hbw
  have HQ := Lib.hid hq
  clear hbw hq hW hgl
  obtain ⟨l0, l1, l2, l3⟩ := box4c HQ.out
  by_cases h1 : 400 < z
  · skip
    go_wp2_with fail
    refine (HW.out _ HB0.out).mono ?_
    rintro e w1 ⟨rfl, hb⟩
    have HB1 := Lib.hid (below_on HB0.out hb)
    clear hb l0 l1 l2 l3
    go_wp2_with fail
    refine (works_is _).mono ?_
    rintro e w2 ⟨rfl, hb⟩
    have HB2 := Lib.hid (below_on HB1.out hb)
    clear hb
    go_wp2_with fail
    go_ret
    exact ⟨rfl, HB2.out⟩
  by_cases h2 : (60 : Int) < m
  · skip
    go_wp2_with fail
    refine (HW.out _ HB0.out).mono ?_
    rintro e w1 ⟨rfl, hb⟩
    have HB1 := Lib.hid (below_on HB0.out hb)
    clear hb l0 l1 l2 l3
    go_wp2_with fail
    refine (works_is _).mono ?_
    rintro e w2 ⟨rfl, hb⟩
    have HB2 := Lib.hid (below_on HB1.out hb)
    clear hb
    go_wp2_with fail
    go_ret
    exact ⟨rfl, HB2.out⟩
  by_cases h3 : (60 : Int) < n
  · skip
    go_wp2_with fail
    refine (HW.out _ HB0.out).mono ?_
    rintro e w1 ⟨rfl, hb⟩
    have HB1 := Lib.hid (below_on HB0.out hb)
    clear hb l0 l1 l2 l3
    go_wp2_with fail
    refine (works_is _).mono ?_
    rintro e w2 ⟨rfl, hb⟩
    have HB2 := Lib.hid (below_on HB1.out hb)
    clear hb
    go_wp2_with fail
    go_ret
    exact ⟨rfl, HB2.out⟩
  have HM : Hid (m ≤ 100000) := Lib.hid (by omega)
  have HN : Hid (n ≤ 100000) := Lib.hid (by omega)
  go_wp2_with fail
  refine (HW.out _ HB0.out).mono ?_
  rintro e w1 ⟨rfl, hb⟩
  have HB1 := Lib.hid (below_on HB0.out hb)
  have HQ1 := Lib.hid (blk_keep hb HQ.out)
  clear hb l0 l1 l2 l3
  obtain ⟨l0, l1, l2, l3⟩ := box4c HQ1.out
  go_wp2_with fail
  refine (HR.out HM.out HN.out _ HB1.out).mono ?_
  rintro e w2 ⟨rfl, hb⟩
  have HB2 := Lib.hid (below_on HB1.out hb)
  have HQ2 := Lib.hid (blk_keep hb HQ1.out)
  clear hb l0 l1 l2 l3
  obtain ⟨l0, l1, l2, l3⟩ := box4c HQ2.out
  go_wp2_with fail
  refine (HD.out HM.out HN.out _ HB2.out).mono ?_
  rintro e w3 ⟨rfl, hb⟩
  have HB3 := Lib.hid (below_on HB2.out hb)
  clear hb l0 l1 l2 l3
  go_wp2_with fail
  refine (works_is _).mono ?_
  rintro e w4 ⟨rfl, hb⟩
  have HB4 := Lib.hid (below_on HB3.out hb)
  clear hb
  go_wp2_with fail
  go_ret
  exact ⟨rfl, HB4.out⟩
theorem walk_SafetyRow (v0 : Array Value) (a1 : Option Addr) (len1 cap1 : Nat) (a2 : Option Addr) (len2 cap2 : Nat) (w : World) (_s0 : v0.size = Try.prog.cellsOf 27) (w0 : Rd Try.prog w 27 v0.toList) (w1 : Rd Try.prog w 44 [.slice a1 len1 cap1]) (w2 : Rd Try.prog w 45 [.slice a2 len2 cap2]) :
    Calls Try.prog 5 #[.agg v0, .slice a1 len1 cap1, .slice a2 len2 cap2] w fun e w' => e = .returned (.bool true) ∧ Below w.heap.size w w' := by
  obtain ⟨L, hv, hL⟩ := lay_of w0
  obtain rfl : v0 = #[L.se.v, L.po.v, L.sg.v, L.rt.v] := by apply Array.toList_inj.1; rw [hv]
  obtain ⟨X, hx, hX, hok⟩ := ips_of w1
  obtain ⟨Y, hy, hY, hok2⟩ := ops_of w2
  unfold Sl.v at hx hy
  simp only [List.cons.injEq, Value.slice.injEq, and_true] at hx hy
  obtain ⟨rfl, rfl, rfl⟩ := hx
  obtain ⟨rfl, rfl, rfl⟩ := hy
  exact safetyRow_is L X.l Y.l X.a Y.a X.l.length Y.l.length X.c Y.c hok hok2 rfl rfl w hL hX.row hY.row
theorem walk_SafetyLess (v0 v1 v2 : Array Value) (a3 : Int) (w : World) (_s0 : v0.size = Try.prog.cellsOf 27) (w0 : Rd Try.prog w 27 v0.toList) (_s1 : v1.size = Try.prog.cellsOf 32) (w1 : Rd Try.prog w 32 v1.toList) (_s2 : v2.size = Try.prog.cellsOf 34) (w2 : Rd Try.prog w 34 v2.toList) (w3 : (Lit.int .u64 a3).wf = true) :
    Calls Try.prog 4 #[.agg v0, .agg v1, .agg v2, .int .u64 a3] w fun e w' => e = .returned (.bool true) ∧ Below w.heap.size w w' := by
  obtain ⟨L, hv, hL⟩ := lay_of w0
  obtain rfl : v0 = #[L.se.v, L.po.v, L.sg.v, L.rt.v] := by apply Array.toList_inj.1; rw [hv]
  obtain ⟨o, n, r, a, len, cap, rfl, ho, hn, hr⟩ := input_rd w1
  obtain ⟨p, q, rfl, hp, hq⟩ := output_rd w2
  obtain ⟨f, rfl, hf⟩ := u64_nat w3
  exact safetyLess_is L o n r p q f a len cap ho hp hf hq hn hr w hL
end Go.Proofs.Ythnpekbmaapgnaa
