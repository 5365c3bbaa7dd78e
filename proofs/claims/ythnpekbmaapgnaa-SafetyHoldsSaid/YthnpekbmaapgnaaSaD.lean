/-
 Layer 29, walks: the closures of safety.Cycle.
-/
import Derived.Test.YthnpekbmaapgnaaSaA
import Derived.Test.YthnpekbmaapgnaaSaB
import Derived.Test.YthnpekbmaapgnaaSaC
import Derived.Test.YthnpekbmaapgnaaCoK
import Derived.Test.YthnpekbmaapgnaaMC
import Derived.Deep.RegionHeld3
namespace Go.Proofs.Ythnpekbmaapgnaa
open Go.RowKit
set_option maxRecDepth 100000
attribute [local irreducible] ixF Sl.v pairS hasBit mayS Rt.tr Rt.nd

theorem cl3_is (z : Bool) (L : Lay) (gl ga : Nat) (a b : Int) (hz : pairS L a b = z) (w : World) (hL : LayAt w L) (hq : w.heap[gl]? = some (.cells #[L.se.v, L.po.v, L.sg.v, L.rt.v] 27)) (ha : w.heap[ga]? = some (.cells #[.int .i64 a] 3)) :
 Calls Try.prog 25 #[.int .i64 b, .pointer (some ⟨gl, 0, none⟩), .pointer (some ⟨ga, 0, none⟩)] w fun e w' => e = .returned (.bool z) ∧ Below w.heap.size w w' := by
 have HC := Lib.hid (pair_is L a b z hz w hL)
 obtain ⟨n1, hn1⟩ : ∃ n, L.se.l.length = n := ⟨_, rfl⟩
 obtain ⟨n2, hn2⟩ : ∃ n, L.po.l.length = n := ⟨_, rfl⟩
 obtain ⟨n3, hn3⟩ : ∃ n, L.sg.l.length = n := ⟨_, rfl⟩
 obtain ⟨n4, hn4⟩ : ∃ n, L.rt.l.length = n := ⟨_, rfl⟩
 rw [slv hn1, slv hn2, slv hn3, slv hn4] at HC hq
 clear hn1 hn2 hn3 hn4 hL hz
 have l0 := blk_cell hq 0 _ rfl
 have l1 := blk_cell hq 1 _ rfl
 have l2 := blk_cell hq 2 _ rfl
 have l3 := blk_cell hq 3 _ rfl
 have c0 := blk_cell ha 0 _ rfl
 clear hq ha
 go_enter Try.func25, Try.ntmps25
 go_wp2_with fail
 refine HC.out.mono ?_
 rintro e w1 ⟨rfl, hb⟩
 have HB := Lib.hid hb
 clear hb
 go_wp2_with fail
 go_ret
 exact ⟨rfl, HB.out⟩
theorem cl2_is (z : Bool) (L : Lay) (gn gl : Nat) (x : Option Addr) (m c : Nat) (l : List Int) (a : Int) (hz : (l.any fun b => pairS L a b) = z) (w : World) (hL : LayAt w L) (hq : w.heap[gl]? = some (.cells #[L.se.v, L.po.v, L.sg.v, L.rt.v] 27)) (hn : w.heap[gn]? = some (.cells #[.slice x m c] 51)) (hl : RowAt 1 intC w x l) (hlen : l.length = m) (hm : m ≤ 9223372036854775807) :
 Calls Try.prog 24 #[.int .i64 a, .pointer (some ⟨gn, 0, none⟩), .pointer (some ⟨gl, 0, none⟩)] w fun e w' => e = .returned (.bool z) ∧ Below w.heap.size w w' := by
 have hb1 := below1 w (.cells #[.int .i64 a] 3)
 have ha := alloc1 w (.cells #[.int .i64 a] 3) (Below.refl _ _)
 have HC := Lib.hid (conf_a2 z gl w.heap.size (fun b => pairS L a b) x m c l (w.alloc (.cells #[.int .i64 a] 3)) hz hlen hm (hl.below hb1) (fun W hW y _ => cl3_is _ L gl w.heap.size a y rfl W (hL.below (below_on hb1 hW)) (blk_keep (below_on hb1 hW) hq) (blk_keep hW ha)))
 have HB1 := Lib.hid hb1
 have l0 := blk_cell (blk_keep hb1 hn) 0 _ rfl
 clear hL hz hb1 ha hq hl hlen hm hn
 go_enter Try.func24, Try.ntmps24
 go_wp2_with fail
 refine HC.out.mono ?_
 rintro e w1 ⟨rfl, hb⟩
 have HB := Lib.hid (below_on HB1.out hb)
 clear hb l0
 go_wp2_with fail
 go_ret
 exact ⟨rfl, HB.out⟩
theorem cl1_is (z : Bool) (L : Lay) (gn gl : Nat) (x : Option Addr) (m c : Nat) (l : List Int) (hz : claI L l = z) (w : World) (hL : LayAt w L) (hq : w.heap[gl]? = some (.cells #[L.se.v, L.po.v, L.sg.v, L.rt.v] 27)) (hn : w.heap[gn]? = some (.cells #[.slice x m c] 51)) (hl : RowAt 1 intC w x l) (hlen : l.length = m) (hm : m ≤ 9223372036854775807) :
 Calls Try.prog 22 #[.pointer (some ⟨gn, 0, none⟩), .pointer (some ⟨gl, 0, none⟩)] w fun e w' => e = .returned (.bool z) ∧ Below w.heap.size w w' := by
 have HC := Lib.hid (conf_a1 z gn gl (fun a => l.any fun b => pairS L a b) x m c l w hz hlen hm hl (fun W hW y _ => cl2_is _ L gn gl x m c l y rfl W (hL.below hW) (blk_keep hW hq) (blk_keep hW hn) (hl.below hW) hlen hm))
 have l0 := blk_cell hn 0 _ rfl
 clear hL hz hq hl hlen hm hn
 go_enter Try.func22, Try.ntmps22
 go_wp2_with fail
 refine HC.out.mono ?_
 rintro e w1 ⟨rfl, hb⟩
 have HB := Lib.hid hb
 clear hb l0
 go_wp2_with fail
 go_ret
 exact ⟨rfl, HB.out⟩
theorem cm3_is (z : Bool) (gi ox nx rx : Nat) (cx : Value) (s : Int) (hs : 0 ≤ s ∧ s ≤ 63) (ho : ox < 18446744073709551616) (hz : hasBit ox s.toNat = z) (w : World) (hq : w.heap[gi]? = some (.cells #[.int .u64 (ox : Int), .int .u32 (nx : Int), .int .u32 (rx : Int), cx] 32)) :
 Calls Try.prog 31 #[.int .i64 s, .pointer (some ⟨gi, 0, none⟩)] w fun e w' => e = .returned (.bool z) ∧ Below w.heap.size w w' := by
 obtain ⟨k, rfl⟩ : ∃ k : Nat, s = k := ⟨s.toNat, by omega⟩
 rw [Int.toNat_natCast] at hz
 have HC := Lib.hid (fun W => shas_is z ox k W (by omega) ho hz)
 have l0 := blk_cell hq 0 _ rfl
 have l1 := blk_lt hq
 clear hs ho hz hq
 go_enter Try.func31, Try.ntmps31
 go_wp2_with fail
 refine (HC.out _).mono ?_
 rintro e w1 ⟨rfl, rfl⟩
 have HB := Lib.hid (Below.refl w.heap.size w)
 go_wp2_with fail
 go_ret
 exact ⟨rfl, HB.out⟩
theorem cm2_is (z : Bool) (gi ox nx rx : Nat) (cx : Value) (r : Rt) (hs : ∀ s ∈ r.tr, 0 ≤ s ∧ s ≤ 63) (ho : ox < 18446744073709551616) (hz : (r.tr.any fun s => hasBit ox s.toNat) = z) (hlen : r.pa.l.length + r.ov.l.length ≤ 100000) (w : World) (hr : RtAt w r) (hq : w.heap[gi]? = some (.cells #[.int .u64 (ox : Int), .int .u32 (nx : Int), .int .u32 (rx : Int), cx] 32)) :
 Calls Try.prog 29 #[.agg #[.string r.nm, .int .i64 r.sg, r.pa.v, r.po.v, r.ov.v, r.fl.v], .pointer (some ⟨gi, 0, none⟩)] w fun e w' => e = .returned (.bool z) ∧ Below w.heap.size w w' := by
 have HT : Hid (∀ W, Below w.heap.size w W → Calls Try.prog 30 #[.agg #[.string r.nm, .int .i64 r.sg, r.pa.v, r.po.v, r.ov.v, r.fl.v]] W fun e w' => ∃ x n c, e = .returned (.slice x n c) ∧ n = r.pa.l.length + r.ov.l.length ∧ SlAt 1 intC w' ⟨x, c, r.tr⟩ ∧ Below W.heap.size W w') := Lib.hid (fun W hW => by
  have h := track_is r W (hr.below hW) hlen
  unfold Rt.tr
  exact h)
 have HLN : Hid (r.tr.length = r.pa.l.length + r.ov.l.length) := Lib.hid (by unfold Rt.tr; rw [List.length_append])
 have HQ := Lib.hid hq
 have HS := Lib.hid hs
 have HO := Lib.hid ho
 have HZ := Lib.hid hz
 have HLE := Lib.hid hlen
 obtain ⟨m1, hm1⟩ : ∃ n, r.pa.l.length = n := ⟨_, rfl⟩
 obtain ⟨m2, hm2⟩ : ∃ n, r.po.l.length = n := ⟨_, rfl⟩
 obtain ⟨m3, hm3⟩ : ∃ n, r.ov.l.length = n := ⟨_, rfl⟩
 obtain ⟨m4, hm4⟩ : ∃ n, r.fl.l.length = n := ⟨_, rfl⟩
 rw [slv hm1, slv hm2, slv hm3, slv hm4] at HT
 rw [slv hm1, slv hm2, slv hm3, slv hm4]
 rw [hm1, hm3] at HT HLN HLE
 have b0 := below1 w (.cells #[.string r.nm, .int .i64 r.sg, .slice r.pa.a m1 r.pa.c, .slice r.po.a m2 r.po.c, .slice r.ov.a m3 r.ov.c, .slice r.fl.a m4 r.fl.c] 54)
 have HB0 := Lib.hid b0
 clear hm1 hm2 hm3 hm4 hs ho hz hlen hr hq b0
 go_enter Try.func29, Try.ntmps29
 go_wp2_with fail
 refine (HT.out _ HB0.out).mono ?_
 rintro e w1 ⟨x, n, c, rfl, rfl, hsl, hb⟩
 have HB1 := Lib.hid (below_on HB0.out hb)
 have HC := Lib.hid (conf_b1 z gi (fun s => hasBit ox s.toNat) x _ c r.tr w1 HZ.out HLN.out (by have := HLE.out; omega) hsl.row (fun W hW y hy => cm3_is _ gi ox nx rx cx y (HS.out y hy) HO.out rfl W (blk_keep (below_on HB1.out hW) HQ.out)))
 clear hb hsl
 go_wp2_with fail
 refine HC.out.mono ?_
 rintro e w2 ⟨rfl, hb⟩
 have HB := Lib.hid (below_on HB1.out hb)
 clear hb
 go_wp2_with fail
 go_ret
 exact ⟨rfl, HB.out⟩
theorem cm1_is (z : Bool) (gs gi ox nx rx : Nat) (cx : Value) (x : Option Addr) (m c : Nat) (R : List Rt) (hs : ∀ r ∈ R, ∀ s ∈ r.tr, 0 ≤ s ∧ s ≤ 63) (ho : ox < 18446744073709551616) (hz : occS ox R = z) (hle : ∀ r ∈ R, r.pa.l.length + r.ov.l.length ≤ 100000) (w : World) (hrs : ∀ r ∈ R, RtAt w r) (hsh : w.heap[gs]? = some (.cells #[.slice x m c] 25)) (hl : RowAt 6 rtC w x R) (hlen : R.length = m) (hm : m ≤ 9223372036854775807) (hq : w.heap[gi]? = some (.cells #[.int .u64 (ox : Int), .int .u32 (nx : Int), .int .u32 (rx : Int), cx] 32)) :
 Calls Try.prog 27 #[.pointer (some ⟨gs, 0, none⟩), .pointer (some ⟨gi, 0, none⟩)] w fun e w' => e = .returned (.bool z) ∧ Below w.heap.size w w' := by
 have HC := Lib.hid (conf_b z gi (fun r => r.tr.any fun s => hasBit ox s.toNat) x m c R w hz hlen hm hl (fun W hW y hy => cm2_is _ gi ox nx rx cx y (hs y hy) ho rfl (hle y hy) W ((hrs y hy).below hW) (blk_keep hW hq)))
 have l0 := blk_cell hsh 0 _ rfl
 clear hs ho hz hle hrs hsh hl hlen hm hq
 go_enter Try.func27, Try.ntmps27
 go_wp2_with fail
 refine HC.out.mono ?_
 rintro e w1 ⟨rfl, hb⟩
 have HB := Lib.hid hb
 clear hb l0
 go_wp2_with fail
 go_ret
 exact ⟨rfl, HB.out⟩
theorem cn3_is (z : Bool) (gr gn nv rv : Nat) (n : Int × Bool) (hs : 0 ≤ n.1 ∧ n.1 ≤ 63) (h1 : nv < 4294967296) (h2 : rv < 4294967296) (hz : (!(hasBit (if n.2 then rv else nv) n.1.toNat)) = z) (w : World) (hr : w.heap[gr]? = some (.cells #[.int .u32 (rv : Int)] 29)) (hn : w.heap[gn]? = some (.cells #[.int .u32 (nv : Int)] 29)) :
 Calls Try.prog 34 #[.agg #[.int .i64 n.1, .bool n.2], .pointer (some ⟨gr, 0, none⟩), .pointer (some ⟨gn, 0, none⟩)] w fun e w' => e = .returned (.bool z) ∧ Below w.heap.size w w' := by
 obtain ⟨p, v⟩ := n
 dsimp only at *
 obtain ⟨k, rfl⟩ : ∃ k : Nat, p = k := ⟨p.toNat, by omega⟩
 rw [Int.toNat_natCast] at hz
 have HV : Hid (∀ W (b : Bool), hasBit rv k = b → Calls Try.prog 20 #[.int .u64 (rv : Int), .int .i64 (k : Int)] W fun e w' => e = .returned (.bool b) ∧ W = w') := Lib.hid (fun W b hb => shas_is b rv k W (by omega) (by omega) hb)
 have HN : Hid (∀ W (b : Bool), hasBit nv k = b → Calls Try.prog 20 #[.int .u64 (nv : Int), .int .i64 (k : Int)] W fun e w' => e = .returned (.bool b) ∧ W = w') := Lib.hid (fun W b hb => shas_is b nv k W (by omega) (by omega) hb)
 have c1 : IntKind.u64.wrap (rv : Int) = (rv : Int) := by rw [IntKind.wrap_u64]; omega
 have c2 : IntKind.u64.wrap (nv : Int) = (nv : Int) := by rw [IntKind.wrap_u64]; omega
 have hb1 := below1 w (.cells #[.int .i64 (k : Int), .bool v] 79)
 have k1 := blk_cell (blk_keep hb1 hr) 0 _ rfl
 have k2 := blk_cell (blk_keep hb1 hn) 0 _ rfl
 have HB := Lib.hid hb1
 clear hs h1 h2 hr hn hb1
 cases v with
 | true =>
   obtain ⟨b, hb⟩ : ∃ b, hasBit rv k = b := ⟨_, rfl⟩
   have HH := Lib.hid hb
   have HZ : Hid ((!b) = z) := Lib.hid (by rw [← hz, ← hb]; rfl)
   clear hz hb
   go_enter Try.func34, Try.ntmps34
   go_wp2_with fail
   refine (HV.out _ b HH.out).mono ?_
   rintro e w1 ⟨rfl, rfl⟩
   go_wp2_with fail
   go_ret
   exact ⟨by rw [← HZ.out]; rfl, HB.out⟩
 | false =>
   obtain ⟨b, hb⟩ : ∃ b, hasBit nv k = b := ⟨_, rfl⟩
   have HH := Lib.hid hb
   have HZ : Hid ((!b) = z) := Lib.hid (by rw [← hz, ← hb]; rfl)
   clear hz hb
   go_enter Try.func34, Try.ntmps34
   go_wp2_with fail
   refine (HN.out _ b HH.out).mono ?_
   rintro e w1 ⟨rfl, rfl⟩
   go_wp2_with fail
   go_ret
   exact ⟨by rw [← HZ.out]; rfl, HB.out⟩
theorem co3_is (z : Bool) (go p q : Nat) (n : Int × Bool) (hs : 0 ≤ n.1 ∧ n.1 ≤ 63) (h1 : q < 4294967296) (hz : (hasBit q n.1.toNat != n.2) = z) (w : World) (hr : w.heap[go]? = some (.cells #[.int .u64 (p : Int), .int .u32 (q : Int)] 34)) :
 Calls Try.prog 36 #[.agg #[.int .i64 n.1, .bool n.2], .pointer (some ⟨go, 0, none⟩)] w fun e w' => e = .returned (.bool z) ∧ Below w.heap.size w w' := by
 obtain ⟨pt, v⟩ := n
 dsimp only at *
 obtain ⟨k, rfl⟩ : ∃ k : Nat, pt = k := ⟨pt.toNat, by omega⟩
 rw [Int.toNat_natCast] at hz
 obtain ⟨b, hb⟩ : ∃ b, hasBit q k = b := ⟨_, rfl⟩
 have c1 : IntKind.u64.wrap (q : Int) = (q : Int) := by rw [IntKind.wrap_u64]; omega
 have hb1 := below1 w (.cells #[.int .i64 (k : Int), .bool v] 79)
 have hx := alloc1 w (.cells #[.int .i64 (k : Int), .bool v] 79) (Below.refl _ _)
 obtain ⟨w1, hw1⟩ : ∃ W, W = w.alloc (.cells #[.int .i64 (k : Int), .bool v] 79) := ⟨_, rfl⟩
 rw [← hw1] at hb1 hx
 have HW := Lib.hid hw1
 obtain ⟨gx, hgx⟩ : ∃ g, g = w.heap.size := ⟨_, rfl⟩
 rw [← hgx] at hx
 have HGX := Lib.hid hgx
 have HX := Lib.hid hx
 have HG := Lib.hid (blk_keep hb1 hr)
 have HB0 := Lib.hid hb1
 have HC : Hid (∀ W, Below w1.heap.size w1 W → Calls Try.prog 20 #[.int .u64 (q : Int), .int .i64 (k : Int)] W fun e w' => e = .returned (.bool b) ∧ Below w1.heap.size w1 w') := Lib.hid (fun W hW => (shas_is b q k W (by omega) (by omega) hb).mono (fun e w' h => ⟨h.1, h.2 ▸ hW⟩))
 have HZ : Hid ((b != v) = z) := Lib.hid (by rw [← hz, ← hb])
 clear hs h1 hr hb1 hx hw1 hgx hb hz
 go_enter Try.func36, Try.ntmps36
 go_upto_region 1 with fail
 rw [← HW.out, ← HGX.out]
 refine wp_region_calm (by kernel_rfl) ?_ ?_
 ·kernel_rfl
 repeat first
  | go_big_quiet_skip
  | (go_big_quiet_want; go_big_quiet_op; go_big_quiet_on)
  | (with_reducible apply wpQuiet_step
     intro K hK
     go_simp
     first
      | (refine hK _ ?_; clear hK K)
      | (apply Exists.intro
         refine ⟨fun w' hw' => ?_, hK _ ?_⟩
         ·
          (first
           | with_reducible exact HC.out _ hw'
           | (have g0 := blk_cell (blk_keep hw' HG.out) 0 _ rfl
              have g1 := blk_cell (blk_keep hw' HG.out) 1 _ rfl
              go_simp
              first | done | with_reducible exact rfl | with_reducible exact ⟨rfl, rfl⟩ | with_reducible exact HC.out _ hw')
           | (have g0 := blk_cell (blk_keep hw' HX.out) 0 _ rfl
              have g1 := blk_cell (blk_keep hw' HX.out) 1 _ rfl
              go_simp
              first | done | with_reducible exact rfl | with_reducible exact ⟨rfl, rfl⟩ | with_reducible exact HC.out _ hw'))
         clear hK K))
 refine wpQuiet_nil ?_
 intro w7 hw7
 have HB7 := Lib.hid (below_on HB0.out hw7)
 clear hw7
 go_wp2_with fail
 go_ret
 exact ⟨by rw [← HZ.out]; rfl, HB7.out⟩
theorem nd1_c (z : Bool) (gr gn nv rv gf : Nat) (r : Rt) (hs : ∀ n ∈ r.nd, 0 ≤ n.1 ∧ n.1 ≤ 63) (h1 : nv < 4294967296) (h2 : rv < 4294967296) (hz : (r.nd.any fun n => !(hasBit (if n.2 then rv else nv) n.1.toNat)) = z) (hlen : r.po.l.length + r.fl.l.length ≤ 100000) (w : World) (hrt : RtAt w r) (hr : w.heap[gr]? = some (.cells #[.int .u32 (rv : Int)] 29)) (hn : w.heap[gn]? = some (.cells #[.int .u32 (nv : Int)] 29)) (hf : w.heap[gf]? = some (.cells #[.func (.func 34) #[] #[.pointer (some ⟨gr, 0, none⟩), .pointer (some ⟨gn, 0, none⟩)]] 80)) :
 Calls Try.prog 59 #[.agg #[.string r.nm, .int .i64 r.sg, r.pa.v, r.po.v, r.ov.v, r.fl.v], .pointer (some ⟨gf, 0, none⟩)] w fun e w' => e = .returned (.bool z) ∧ Below w.heap.size w w' := by
 have HT : Hid (∀ W, Below w.heap.size w W → Calls Try.prog 45 #[.agg #[.string r.nm, .int .i64 r.sg, r.pa.v, r.po.v, r.ov.v, r.fl.v]] W fun e w' => ∃ x n c, e = .returned (.slice x n c) ∧ n = r.po.l.length + r.fl.l.length ∧ SlAt 2 ndC w' ⟨x, c, r.nd⟩ ∧ Below W.heap.size W w') := Lib.hid (fun W hW => by
  have h := needs_is r W (hrt.below hW) hlen
  unfold Rt.nd
  exact h)
 have HLN : Hid (r.nd.length = r.po.l.length + r.fl.l.length) := Lib.hid (by unfold Rt.nd; rw [List.length_append])
 have HCC : Hid (∀ W, Below w.heap.size w W → ∀ x m c, r.nd.length = m → m ≤ 9223372036854775807 → RowAt 2 ndC W x r.nd → Calls Try.prog 60 #[.slice x m c, .func (.func 34) #[] #[.pointer (some ⟨gr, 0, none⟩), .pointer (some ⟨gn, 0, none⟩)]] W fun e w' => e = .returned (.bool z) ∧ Below W.heap.size W w') := Lib.hid (fun W hW x m c e1 e2 hrow => conf_c z gr gn (fun n => !(hasBit (if n.2 then rv else nv) n.1.toNat)) x m c r.nd W hz e1 e2 hrow (fun V hV y hy => by
  have hX := below_on hW hV
  exact cn3_is _ gr gn nv rv y (hs y hy) h1 h2 rfl V (blk_keep hX hr) (blk_keep hX hn)))
 have HLE := Lib.hid hlen
 obtain ⟨m1, hm1⟩ : ∃ n, r.pa.l.length = n := ⟨_, rfl⟩
 obtain ⟨m2, hm2⟩ : ∃ n, r.po.l.length = n := ⟨_, rfl⟩
 obtain ⟨m3, hm3⟩ : ∃ n, r.ov.l.length = n := ⟨_, rfl⟩
 obtain ⟨m4, hm4⟩ : ∃ n, r.fl.l.length = n := ⟨_, rfl⟩
 rw [slv hm1, slv hm2, slv hm3, slv hm4] at HT
 rw [slv hm1, slv hm2, slv hm3, slv hm4]
 rw [hm2, hm4] at HT HLN HLE
 have hb1 := below1 w (.cells #[.string r.nm, .int .i64 r.sg, .slice r.pa.a m1 r.pa.c, .slice r.po.a m2 r.po.c, .slice r.ov.a m3 r.ov.c, .slice r.fl.a m4 r.fl.c] 54)
 have hx := alloc1 w (.cells #[.string r.nm, .int .i64 r.sg, .slice r.pa.a m1 r.pa.c, .slice r.po.a m2 r.po.c, .slice r.ov.a m3 r.ov.c, .slice r.fl.a m4 r.fl.c] 54) (Below.refl _ _)
 obtain ⟨w1, hw1⟩ : ∃ W, W = w.alloc (.cells #[.string r.nm, .int .i64 r.sg, .slice r.pa.a m1 r.pa.c, .slice r.po.a m2 r.po.c, .slice r.ov.a m3 r.ov.c, .slice r.fl.a m4 r.fl.c] 54) := ⟨_, rfl⟩
 rw [← hw1] at hb1 hx
 have HW := Lib.hid hw1
 obtain ⟨gx, hgx⟩ : ∃ g, g = w.heap.size := ⟨_, rfl⟩
 rw [← hgx] at hx
 have HGX := Lib.hid hgx
 have HX := Lib.hid hx
 have HF := Lib.hid (blk_keep hb1 hf)
 have HB0 := Lib.hid hb1
 clear hm1 hm2 hm3 hm4 hs h1 h2 hz hlen hrt hr hn hf hb1 hx hw1 hgx
 have HS : Hid (∀ w', Below w1.heap.size w1 w' → w'.cell? ⟨gx, 0, none⟩ = some (.string r.nm) ∧ w'.cell? ⟨gx, 1, none⟩ = some (.int .i64 r.sg) ∧ w'.cell? ⟨gx, 2, none⟩ = some (.slice r.pa.a m1 r.pa.c) ∧ w'.cell? ⟨gx, 3, none⟩ = some (.slice r.po.a m2 r.po.c) ∧ w'.cell? ⟨gx, 4, none⟩ = some (.slice r.ov.a m3 r.ov.c) ∧ w'.cell? ⟨gx, 5, none⟩ = some (.slice r.fl.a m4 r.fl.c) ∧ w'.cell? ⟨gf, 0, none⟩ = some (.func (.func 34) #[] #[.pointer (some ⟨gr, 0, none⟩), .pointer (some ⟨gn, 0, none⟩)])) := Lib.hid (fun w' hw' => ⟨blk_cell (blk_keep hw' HX.out) 0 _ rfl, blk_cell (blk_keep hw' HX.out) 1 _ rfl, blk_cell (blk_keep hw' HX.out) 2 _ rfl, blk_cell (blk_keep hw' HX.out) 3 _ rfl, blk_cell (blk_keep hw' HX.out) 4 _ rfl, blk_cell (blk_keep hw' HX.out) 5 _ rfl, blk_cell (blk_keep hw' HF.out) 0 _ rfl⟩)
 go_enter Try.func59, Try.ntmps59
 go_upto_region 1 with fail
 rw [← HW.out, ← HGX.out]
 go_region_held3 (fun w' => w'.cell? ⟨gx, 0, none⟩ = some (.string r.nm) ∧ w'.cell? ⟨gx, 1, none⟩ = some (.int .i64 r.sg) ∧ w'.cell? ⟨gx, 2, none⟩ = some (.slice r.pa.a m1 r.pa.c) ∧ w'.cell? ⟨gx, 3, none⟩ = some (.slice r.po.a m2 r.po.c) ∧ w'.cell? ⟨gx, 4, none⟩ = some (.slice r.ov.a m3 r.ov.c) ∧ w'.cell? ⟨gx, 5, none⟩ = some (.slice r.fl.a m4 r.fl.c) ∧ w'.cell? ⟨gf, 0, none⟩ = some (.func (.func 34) #[] #[.pointer (some ⟨gr, 0, none⟩), .pointer (some ⟨gn, 0, none⟩)]))
  (exact HS.out _ (by first | exact (Below.refl _ w1) | exact (Below.refl _ w1).drew | assumption))
  (first
    | ((with_reducible refine (HT.out _ (below_on HB0.out (by first | exact (Below.refl _ w1) | exact (Below.refl _ w1).drew | assumption))).mono ?_); rintro e v1 ⟨x, n, c, rfl, rfl, hsl, hv1⟩; have hb1 : Below w1.heap.size w1 v1 := below_on (by first | exact (Below.refl _ w1) | exact (Below.refl _ w1).drew | assumption) hv1)
    | ((with_reducible refine (HCC.out _ (below_on HB0.out (by first | exact hb1 | exact hb1.drew | assumption)) _ _ _ HLN.out (by have := HLE.out; omega) (by first | exact hsl.row | exact (hsl.below (Below.refl _ v1).drew).row)).mono ?_); rintro e v2 ⟨rfl, hv2⟩; have hb2 : Below w1.heap.size w1 v2 := below_on (by first | exact hb1 | exact hb1.drew | assumption) hv2))
 have HB := Lib.hid (below_on HB0.out hb2)
 clear HS hv1 hb1 hsl hv2 hb2
 go_wp2_with fail
 go_ret
 exact ⟨rfl, HB.out⟩
theorem nds_c (z : Bool) (gr gn nv rv : Nat) (x : Option Addr) (m c : Nat) (R : List Rt) (hs : ∀ r ∈ R, ∀ n ∈ r.nd, 0 ≤ n.1 ∧ n.1 ≤ 63) (h1 : nv < 4294967296) (h2 : rv < 4294967296) (hz : (R.any fun r => r.nd.any fun n => !(hasBit (if n.2 then rv else nv) n.1.toNat)) = z) (hle : ∀ r ∈ R, r.po.l.length + r.fl.l.length ≤ 100000) (w : World) (hrs : ∀ r ∈ R, RtAt w r) (hl : RowAt 6 rtC w x R) (hlen : R.length = m) (hm : m ≤ 9223372036854775807) (hr : w.heap[gr]? = some (.cells #[.int .u32 (rv : Int)] 29)) (hn : w.heap[gn]? = some (.cells #[.int .u32 (nv : Int)] 29)) :
 Calls Try.prog 33 #[.slice x m c, .func (.func 34) #[] #[.pointer (some ⟨gr, 0, none⟩), .pointer (some ⟨gn, 0, none⟩)]] w fun e w' => e = .returned (.bool z) ∧ Below w.heap.size w w' := by
 have hb1 := below1 w (.cells #[.func (.func 34) #[] #[.pointer (some ⟨gr, 0, none⟩), .pointer (some ⟨gn, 0, none⟩)]] 80)
 have hf := alloc1 w (.cells #[.func (.func 34) #[] #[.pointer (some ⟨gr, 0, none⟩), .pointer (some ⟨gn, 0, none⟩)]] 80) (Below.refl _ _)
 have HC := Lib.hid (conf_n1 z w.heap.size (fun r => r.nd.any fun n => !(hasBit (if n.2 then rv else nv) n.1.toNat)) x m c R (w.alloc (.cells #[.func (.func 34) #[] #[.pointer (some ⟨gr, 0, none⟩), .pointer (some ⟨gn, 0, none⟩)]] 80)) hz hlen hm (hl.below hb1) (fun W hW y hy => by
  have hX := below_on hb1 hW
  exact nd1_c _ gr gn nv rv w.heap.size y (hs y hy) h1 h2 rfl (hle y hy) W ((hrs y hy).below hX) (blk_keep hX hr) (blk_keep hX hn) (blk_keep hW hf)))
 have HB1 := Lib.hid hb1
 clear hs h1 h2 hz hle hrs hl hlen hm hr hn hb1 hf
 go_enter Try.func33, Try.ntmps33
 go_wp2_with fail
 refine HC.out.mono ?_
 rintro e w1 ⟨rfl, hb⟩
 have HB := Lib.hid (below_on HB1.out hb)
 clear hb
 go_wp2_with fail
 go_ret
 exact ⟨rfl, HB.out⟩
theorem top_c (z : Bool) (gs gr gn nv rv : Nat) (x : Option Addr) (m c : Nat) (R : List Rt) (hs : ∀ r ∈ R, ∀ n ∈ r.nd, 0 ≤ n.1 ∧ n.1 ≤ 63) (h1 : nv < 4294967296) (h2 : rv < 4294967296) (hz : (R.any fun r => r.nd.any fun n => !(hasBit (if n.2 then rv else nv) n.1.toNat)) = z) (hle : ∀ r ∈ R, r.po.l.length + r.fl.l.length ≤ 100000) (w : World) (hrs : ∀ r ∈ R, RtAt w r) (hsh : w.heap[gs]? = some (.cells #[.slice x m c] 25)) (hl : RowAt 6 rtC w x R) (hlen : R.length = m) (hm : m ≤ 9223372036854775807) (hr : w.heap[gr]? = some (.cells #[.int .u32 (rv : Int)] 29)) (hn : w.heap[gn]? = some (.cells #[.int .u32 (nv : Int)] 29)) :
 Calls Try.prog 32 #[.pointer (some ⟨gs, 0, none⟩), .pointer (some ⟨gr, 0, none⟩), .pointer (some ⟨gn, 0, none⟩)] w fun e w' => e = .returned (.bool z) ∧ Below w.heap.size w w' := by
 have HC := Lib.hid (nds_c z gr gn nv rv x m c R hs h1 h2 hz hle w hrs hl hlen hm hr hn)
 have l0 := blk_cell hsh 0 _ rfl
 clear hs h1 h2 hz hle hrs hl hlen hm hr hn hsh
 go_enter Try.func32, Try.ntmps32
 go_wp2_with fail
 refine HC.out.mono ?_
 rintro e w1 ⟨rfl, hb⟩
 have HB := Lib.hid hb
 clear hb l0
 go_wp2_with fail
 go_ret
 exact ⟨rfl, HB.out⟩
theorem nd1_d (z : Bool) (go p q gf : Nat) (r : Rt) (hs : ∀ n ∈ r.nd, 0 ≤ n.1 ∧ n.1 ≤ 63) (h1 : q < 4294967296) (hz : (r.nd.any fun n => hasBit q n.1.toNat != n.2) = z) (hlen : r.po.l.length + r.fl.l.length ≤ 100000) (w : World) (hrt : RtAt w r) (hr : w.heap[go]? = some (.cells #[.int .u64 (p : Int), .int .u32 (q : Int)] 34)) (hf : w.heap[gf]? = some (.cells #[.func (.func 36) #[] #[.pointer (some ⟨go, 0, none⟩)]] 80)) :
 Calls Try.prog 59 #[.agg #[.string r.nm, .int .i64 r.sg, r.pa.v, r.po.v, r.ov.v, r.fl.v], .pointer (some ⟨gf, 0, none⟩)] w fun e w' => e = .returned (.bool z) ∧ Below w.heap.size w w' := by
 have HT : Hid (∀ W, Below w.heap.size w W → Calls Try.prog 45 #[.agg #[.string r.nm, .int .i64 r.sg, r.pa.v, r.po.v, r.ov.v, r.fl.v]] W fun e w' => ∃ x n c, e = .returned (.slice x n c) ∧ n = r.po.l.length + r.fl.l.length ∧ SlAt 2 ndC w' ⟨x, c, r.nd⟩ ∧ Below W.heap.size W w') := Lib.hid (fun W hW => by
  have h := needs_is r W (hrt.below hW) hlen
  unfold Rt.nd
  exact h)
 have HLN : Hid (r.nd.length = r.po.l.length + r.fl.l.length) := Lib.hid (by unfold Rt.nd; rw [List.length_append])
 have HCC : Hid (∀ W, Below w.heap.size w W → ∀ x m c, r.nd.length = m → m ≤ 9223372036854775807 → RowAt 2 ndC W x r.nd → Calls Try.prog 60 #[.slice x m c, .func (.func 36) #[] #[.pointer (some ⟨go, 0, none⟩)]] W fun e w' => e = .returned (.bool z) ∧ Below W.heap.size W w') := Lib.hid (fun W hW x m c e1 e2 hrow => conf_d z go (fun n => hasBit q n.1.toNat != n.2) x m c r.nd W hz e1 e2 hrow (fun V hV y hy => by
  have hX := below_on hW hV
  exact co3_is _ go p q y (hs y hy) h1 rfl V (blk_keep hX hr)))
 have HLE := Lib.hid hlen
 obtain ⟨m1, hm1⟩ : ∃ n, r.pa.l.length = n := ⟨_, rfl⟩
 obtain ⟨m2, hm2⟩ : ∃ n, r.po.l.length = n := ⟨_, rfl⟩
 obtain ⟨m3, hm3⟩ : ∃ n, r.ov.l.length = n := ⟨_, rfl⟩
 obtain ⟨m4, hm4⟩ : ∃ n, r.fl.l.length = n := ⟨_, rfl⟩
 rw [slv hm1, slv hm2, slv hm3, slv hm4] at HT
 rw [slv hm1, slv hm2, slv hm3, slv hm4]
 rw [hm2, hm4] at HT HLN HLE
 have hb1 := below1 w (.cells #[.string r.nm, .int .i64 r.sg, .slice r.pa.a m1 r.pa.c, .slice r.po.a m2 r.po.c, .slice r.ov.a m3 r.ov.c, .slice r.fl.a m4 r.fl.c] 54)
 have hx := alloc1 w (.cells #[.string r.nm, .int .i64 r.sg, .slice r.pa.a m1 r.pa.c, .slice r.po.a m2 r.po.c, .slice r.ov.a m3 r.ov.c, .slice r.fl.a m4 r.fl.c] 54) (Below.refl _ _)
 obtain ⟨w1, hw1⟩ : ∃ W, W = w.alloc (.cells #[.string r.nm, .int .i64 r.sg, .slice r.pa.a m1 r.pa.c, .slice r.po.a m2 r.po.c, .slice r.ov.a m3 r.ov.c, .slice r.fl.a m4 r.fl.c] 54) := ⟨_, rfl⟩
 rw [← hw1] at hb1 hx
 have HW := Lib.hid hw1
 obtain ⟨gx, hgx⟩ : ∃ g, g = w.heap.size := ⟨_, rfl⟩
 rw [← hgx] at hx
 have HGX := Lib.hid hgx
 have HX := Lib.hid hx
 have HF := Lib.hid (blk_keep hb1 hf)
 have HB0 := Lib.hid hb1
 clear hm1 hm2 hm3 hm4 hs h1 hz hlen hrt hr hf hb1 hx hw1 hgx
 have HS : Hid (∀ w', Below w1.heap.size w1 w' → w'.cell? ⟨gx, 0, none⟩ = some (.string r.nm) ∧ w'.cell? ⟨gx, 1, none⟩ = some (.int .i64 r.sg) ∧ w'.cell? ⟨gx, 2, none⟩ = some (.slice r.pa.a m1 r.pa.c) ∧ w'.cell? ⟨gx, 3, none⟩ = some (.slice r.po.a m2 r.po.c) ∧ w'.cell? ⟨gx, 4, none⟩ = some (.slice r.ov.a m3 r.ov.c) ∧ w'.cell? ⟨gx, 5, none⟩ = some (.slice r.fl.a m4 r.fl.c) ∧ w'.cell? ⟨gf, 0, none⟩ = some (.func (.func 36) #[] #[.pointer (some ⟨go, 0, none⟩)])) := Lib.hid (fun w' hw' => ⟨blk_cell (blk_keep hw' HX.out) 0 _ rfl, blk_cell (blk_keep hw' HX.out) 1 _ rfl, blk_cell (blk_keep hw' HX.out) 2 _ rfl, blk_cell (blk_keep hw' HX.out) 3 _ rfl, blk_cell (blk_keep hw' HX.out) 4 _ rfl, blk_cell (blk_keep hw' HX.out) 5 _ rfl, blk_cell (blk_keep hw' HF.out) 0 _ rfl⟩)
 go_enter Try.func59, Try.ntmps59
 go_upto_region 1 with fail
 rw [← HW.out, ← HGX.out]
 go_region_held3 (fun w' => w'.cell? ⟨gx, 0, none⟩ = some (.string r.nm) ∧ w'.cell? ⟨gx, 1, none⟩ = some (.int .i64 r.sg) ∧ w'.cell? ⟨gx, 2, none⟩ = some (.slice r.pa.a m1 r.pa.c) ∧ w'.cell? ⟨gx, 3, none⟩ = some (.slice r.po.a m2 r.po.c) ∧ w'.cell? ⟨gx, 4, none⟩ = some (.slice r.ov.a m3 r.ov.c) ∧ w'.cell? ⟨gx, 5, none⟩ = some (.slice r.fl.a m4 r.fl.c) ∧ w'.cell? ⟨gf, 0, none⟩ = some (.func (.func 36) #[] #[.pointer (some ⟨go, 0, none⟩)]))
  (exact HS.out _ (by first | exact (Below.refl _ w1) | exact (Below.refl _ w1).drew | assumption))
  (first
    | ((with_reducible refine (HT.out _ (below_on HB0.out (by first | exact (Below.refl _ w1) | exact (Below.refl _ w1).drew | assumption))).mono ?_); rintro e v1 ⟨x, n, c, rfl, rfl, hsl, hv1⟩; have hb1 : Below w1.heap.size w1 v1 := below_on (by first | exact (Below.refl _ w1) | exact (Below.refl _ w1).drew | assumption) hv1)
    | ((with_reducible refine (HCC.out _ (below_on HB0.out (by first | exact hb1 | exact hb1.drew | assumption)) _ _ _ HLN.out (by have := HLE.out; omega) (by first | exact hsl.row | exact (hsl.below (Below.refl _ v1).drew).row)).mono ?_); rintro e v2 ⟨rfl, hv2⟩; have hb2 : Below w1.heap.size w1 v2 := below_on (by first | exact hb1 | exact hb1.drew | assumption) hv2))
 have HB := Lib.hid (below_on HB0.out hb2)
 clear HS hv1 hb1 hsl hv2 hb2
 go_wp2_with fail
 go_ret
 exact ⟨rfl, HB.out⟩
theorem nds_d (z : Bool) (go p q : Nat) (x : Option Addr) (m c : Nat) (R : List Rt) (hs : ∀ r ∈ R, ∀ n ∈ r.nd, 0 ≤ n.1 ∧ n.1 ≤ 63) (h1 : q < 4294967296) (hz : (R.any fun r => r.nd.any fun n => hasBit q n.1.toNat != n.2) = z) (hle : ∀ r ∈ R, r.po.l.length + r.fl.l.length ≤ 100000) (w : World) (hrs : ∀ r ∈ R, RtAt w r) (hl : RowAt 6 rtC w x R) (hlen : R.length = m) (hm : m ≤ 9223372036854775807) (hr : w.heap[go]? = some (.cells #[.int .u64 (p : Int), .int .u32 (q : Int)] 34)) :
 Calls Try.prog 33 #[.slice x m c, .func (.func 36) #[] #[.pointer (some ⟨go, 0, none⟩)]] w fun e w' => e = .returned (.bool z) ∧ Below w.heap.size w w' := by
 have hb1 := below1 w (.cells #[.func (.func 36) #[] #[.pointer (some ⟨go, 0, none⟩)]] 80)
 have hf := alloc1 w (.cells #[.func (.func 36) #[] #[.pointer (some ⟨go, 0, none⟩)]] 80) (Below.refl _ _)
 have HC := Lib.hid (conf_n1 z w.heap.size (fun r => r.nd.any fun n => hasBit q n.1.toNat != n.2) x m c R (w.alloc (.cells #[.func (.func 36) #[] #[.pointer (some ⟨go, 0, none⟩)]] 80)) hz hlen hm (hl.below hb1) (fun W hW y hy => by
  have hX := below_on hb1 hW
  exact nd1_d _ go p q w.heap.size y (hs y hy) h1 rfl (hle y hy) W ((hrs y hy).below hX) (blk_keep hX hr) (blk_keep hW hf)))
 have HB1 := Lib.hid hb1
 clear hs h1 hz hle hrs hl hlen hm hr hb1 hf
 go_enter Try.func33, Try.ntmps33
 go_wp2_with fail
 refine HC.out.mono ?_
 rintro e w1 ⟨rfl, hb⟩
 have HB := Lib.hid (below_on HB1.out hb)
 clear hb
 go_wp2_with fail
 go_ret
 exact ⟨rfl, HB.out⟩
theorem top_d (z : Bool) (gs go p q : Nat) (x : Option Addr) (m c : Nat) (R : List Rt) (hs : ∀ r ∈ R, ∀ n ∈ r.nd, 0 ≤ n.1 ∧ n.1 ≤ 63) (h1 : q < 4294967296) (hz : (R.any fun r => r.nd.any fun n => hasBit q n.1.toNat != n.2) = z) (hle : ∀ r ∈ R, r.po.l.length + r.fl.l.length ≤ 100000) (w : World) (hrs : ∀ r ∈ R, RtAt w r) (hsh : w.heap[gs]? = some (.cells #[.slice x m c] 25)) (hl : RowAt 6 rtC w x R) (hlen : R.length = m) (hm : m ≤ 9223372036854775807) (hr : w.heap[go]? = some (.cells #[.int .u64 (p : Int), .int .u32 (q : Int)] 34)) :
 Calls Try.prog 35 #[.pointer (some ⟨gs, 0, none⟩), .pointer (some ⟨go, 0, none⟩)] w fun e w' => e = .returned (.bool z) ∧ Below w.heap.size w w' := by
 have HC := Lib.hid (nds_d z go p q x m c R hs h1 hz hle w hrs hl hlen hm hr)
 have l0 := blk_cell hsh 0 _ rfl
 clear hs h1 hz hle hrs hl hlen hm hr hsh
 go_enter Try.func35, Try.ntmps35
 go_wp2_with fail
 refine HC.out.mono ?_
 rintro e w1 ⟨rfl, hb⟩
 have HB := Lib.hid hb
 clear hb l0
 go_wp2_with fail
 go_ret
 exact ⟨rfl, HB.out⟩
end Go.Proofs.Ythnpekbmaapgnaa
