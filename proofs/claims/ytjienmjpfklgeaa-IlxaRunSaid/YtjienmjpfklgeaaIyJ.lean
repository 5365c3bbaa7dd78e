/-
 Layer 10: is an output safe.
-/
import Derived.Test.YtjienmjpfklgeaaIxT
import Derived.Test.YtjienmjpfklgeaaIxLa
import Derived.Test.YtjienmjpfklgeaaIyP
import Derived.Test.YtjienmjpfklgeaaCoK
namespace Go.Proofs.Ytjienmjpfklgeaa
open Go.RowKit
set_option maxRecDepth 100000
theorem side_is {n r : Nat} (hn : n < 4294967296) (hr : r < 4294967296) : bits .andNot .u32 (n : Int) (r : Int) = ((sideN n r : Nat) : Int) := by
 rw [u32_andNot_nat n r hn hr]; rfl
theorem side_lt {n r : Nat} (hn : n < 4294967296) : sideN n r < 4294967296 := Nat.lt_of_le_of_lt Nat.and_le_left hn
/-- a row in a slice's value -/
def RwA {α : Type} (sz : Nat) (f : α → List Value) (W : World) (l : List α) (v : Value) : Prop := ∃ a n c, v = .slice a n c ∧ n = l.length ∧ SlAt sz f W ⟨a, c, l⟩
theorem RwA.below {α : Type} {sz : Nat} {f : α → List Value} {W W' : World} {l : List α} {v : Value} (h : RwA sz f W l v) (hb : Below W.heap.size W W') : RwA sz f W' l v := by
 obtain ⟨a, n, c, h1, h2, h3⟩ := h
 exact ⟨a, n, c, h1, h2, h3.below hb⟩
theorem out_lt {T : Tb} {s : St} {oc no re : Nat} (hT : TbOk T) : outS T s oc no re < 18446744073709551616 := pros_lt _ _ _ _ _ _ hT.rn
theorem rwa_mk {α : Type} {sz : Nat} {f : α → List Value} {W : World} {l : List α} {a : Option Addr} {n c : Nat} (h1 : n = l.length) (h2 : SlAt sz f W ⟨a, c, l⟩) : RwA sz f W l (.slice a n c) := ⟨a, n, c, rfl, h1, h2⟩
theorem out_low {T : Tb} {s : St} {oc no re OP : Nat} (hT : TbOk T) (h : outS T s oc no re = OP) : bits .andNot .u64 (OP : Int) ((pw T.rw.length - 1 : Nat) : Int) = 0 := by
 have hlt : OP < 18446744073709551616 := h ▸ pros_lt _ _ _ _ _ _ hT.rn
 have hp : pw T.rw.length - 1 < 18446744073709551616 := by
  have h1 : pw T.rw.length ≤ pw 64 := Nat.pow_le_pow_right (by omega) hT.rn
  have h2 : pw 64 = 18446744073709551616 := by decide
  omega
 rw [u64_andNot_nat _ _ hlt hp]
 have : OP &&& (18446744073709551615 - (pw T.rw.length - 1)) = 0 := by
  refine Nat.eq_of_testBit_eq fun i => ?_
  rw [Nat.testBit_and, Nat.zero_testBit]
  cases hb : OP.testBit i with
  | false => rfl
  | true =>
    have h2 := lt_test hlt hb
    rw [← hasBit_test, ← h] at hb
    have h3 := (pro_parts hb).1
    rw [not_bit hp h2, ← hasBit_test, has_low, decide_eq_true h3]; rfl
 rw [this]; rfl
theorem has_zero32 (s n : Nat) (hs : s < 4294967296) (h : hasBit s n = true) : (bits .and .u32 ((s : Int) / 2 ^ n) 1 == 0) = false := by
 have h2 := has_eq32 s n hs
 rw [h, beq_iff_eq] at h2
 rw [h2]; rfl
attribute [local irreducible] Sl.v hasBit pw withBit woBit cyL stL stV tmL freeS ndBad maySet ptL setS mayCan canS canD nedS flipB mayMov movS comG relS rouS proS tidyS comsG rousS prosS nextG outS lnOk rightK rgtS eqS Mc.tb upd mayS checkS sideN
attribute [local irreducible] tbL rwL secOf cofL Rt.tr Rt.nd conflictS pairS formedS
attribute [local irreducible] mskS
attribute [local irreducible] RwA

set_option maxHeartbeats 16000000 in
theorem safe_is (L : Lay) (s : St) (oc no re OP : Nat) (ia : Option Addr) (il ic : Nat) (w : World) (hL : LayAt w L) (hc : (checkS L).1 = 0) (hR : Rg (tbL L) s) (ho : oc < 18446744073709551616) (hno : no < 4294967296) (hre : re < 4294967296) (hOP : outS (tbL L) s oc no re = OP) :
 Calls Try.prog 21 #[.agg #[L.se.v, L.po.v, L.sg.v, L.rt.v], .agg (stL s).toArray, .agg #[.int .u64 (oc : Int), .int .u32 (no : Int), .int .u32 (re : Int), .slice ia il ic], .agg #[.int .u64 (OP : Int), .int .u32 (s.pt : Int)]] w fun e w' => e = .returned (.bool true) ∧ Below w.heap.size w w' := by
 have HMAY : Hid (mayS L = true) := Lib.hid (cs_zero hc)
 have HS4 : Hid (L.rt.l.length ≤ 64) := Lib.hid (mayS_small (cs_zero hc)).2.2.2
 have HCK := Lib.hid hc
 obtain ⟨n1, hn1⟩ : ∃ n, L.se.l.length = n := ⟨_, rfl⟩
 obtain ⟨n2, hn2⟩ : ∃ n, L.po.l.length = n := ⟨_, rfl⟩
 obtain ⟨n3, hn3⟩ : ∃ n, L.sg.l.length = n := ⟨_, rfl⟩
 obtain ⟨n4, hn4⟩ : ∃ n, L.rt.l.length = n := ⟨_, rfl⟩
 have HLW := Lib.hid hL
 have HN1 := Lib.hid hn1
 have HN2 := Lib.hid hn2
 have HN3 := Lib.hid hn3
 have HN4 := Lib.hid hn4
 have HSO := Lib.hid hR.ok
 have HRG := Lib.hid hR
 have HTR := Lib.hid (tbl_right hc)
 have HOPE := Lib.hid hOP
 have HBD := Lib.hid (And.intro ho (And.intro hno hre))
 have HSD : Hid (bits .andNot .u32 (no : Int) (re : Int) = ((sideN no re : Nat) : Int) ∧ bits .andNot .u32 (re : Int) (no : Int) = ((sideN re no : Nat) : Int)) := Lib.hid ⟨side_is hno hre, side_is hre hno⟩
 have HOL : Hid (OP < 18446744073709551616) := Lib.hid (hOP ▸ out_lt (tbl_ok hc))
 have HLOW : Hid (bits .andNot .u64 (OP : Int) ((pw n4 - 1 : Nat) : Int) = 0) := Lib.hid (by have h := out_low (tbl_ok hc) hOP; rw [tbl_len, hn4] at h; exact h)
 have KPR : Hid (∀ (i k : Nat), pairS L (i : Int) (k : Int) = false → ∀ V, Below w.heap.size w V → Calls Try.prog 49 #[.agg #[L.se.v, L.po.v, L.sg.v, L.rt.v], .int .i64 (i : Int), .int .i64 (k : Int)] V fun e w' => e = .returned (.bool false) ∧ Below V.heap.size V w') := Lib.hid (fun i k h V hV => pair_is L i k false h V (hL.below hV))
 have KFI : Hid (∀ V, Calls Try.prog 43 #[.int .i64 (n4 : Int)] V fun e w' => e = .returned (.int .u64 ((pw n4 - 1 : Nat) : Int)) ∧ Below V.heap.size V w') := Lib.hid (fun V => (first_any n4 n4 V (by have := HS4.out; omega)).mono (fun _ _ h => ⟨h.1, h.2 ▸ Below.refl _ _⟩))
 rw [hn4] at HS4
 rw [slv hn1, slv hn2, slv hn3, slv hn4] at KPR ⊢
 clear hn1 hn2 hn3 hn4 hL hc hR ho hno hre hOP
 go_enter Try.func21, Try.ntmps21
 go_upto_region 1 with fail
 refine name_last (os := [.cells #[.slice L.se.a n1 L.se.c, .slice L.po.a n2 L.po.c, .slice L.sg.a n3 L.sg.c, .slice L.rt.a n4 L.rt.c] 27, .cells (stL s).toArray 32, .cells #[.int .u64 (oc : Int), .int .u32 (no : Int), .int .u32 (re : Int), .slice ia il ic] 35, .cells #[.int .u64 (OP : Int), .int .u32 (s.pt : Int)] 48]) (w0 := w) rfl ?_
 intro W hat hbw
 obtain ⟨gl, hgl⟩ : ∃ g, g = w.heap.size := ⟨_, rfl⟩
 have q0 := hat 0 _ rfl
 obtain ⟨gs, hgs⟩ : ∃ g, g = gl + 1 := ⟨_, rfl⟩
 have q1 := hat 1 _ rfl
 obtain ⟨gi, hgi⟩ : ∃ g, g = gs + 1 := ⟨_, rfl⟩
 have q2 := hat 2 _ rfl
 obtain ⟨go, hgo⟩ : ∃ g, g = gi + 1 := ⟨_, rfl⟩
 have q3 := hat 3 _ rfl
 rw [Nat.add_zero, ← hgl] at q0
 rw [← hgl, ← hgs] at q1
 rw [← hgl, show gl + 2 = gi by omega] at q2
 rw [← hgl, show gl + 3 = go by omega] at q3
 rw [← hgl, ← hgs, ← hgi, ← hgo]
 have HQl := Lib.hid q0
 have HQs := Lib.hid q1
 have HQi := Lib.hid q2
 have HQo := Lib.hid q3
 have HB0 := Lib.hid hbw
 clear hat hbw q0 q1 q2 q3 hgl hgs hgi hgo
 have i0 := blk_cell HQi.out 0 _ rfl
 have i1 := blk_cell HQi.out 1 _ rfl
 have i2 := blk_cell HQi.out 2 _ rfl
 have i3 := blk_cell HQi.out 3 _ rfl
 go_wp2_with fail
 refine (refsides_any oc no re ia il ic _).mono ?_
 rintro e w1 ⟨he, hb1⟩
 rw [HSD.out.1, HSD.out.2] at he
 subst he
 have HB1 := Lib.hid (below_on HB0.out hb1)
 have HL1 := Lib.hid (blk_keep hb1 HQl.out)
 have HS1 := Lib.hid (blk_keep hb1 HQs.out)
 have HI1 := Lib.hid (blk_keep hb1 HQi.out)
 have HO1 := Lib.hid (blk_keep hb1 HQo.out)
 clear hb1 i0 i1 i2 i3
 go_upto_region 3 with fail
 go_loopg [11] n4 (fun g v wr => ∃ i : Nat, i + g = n4 ∧ v = .int .i64 (i : Int) ∧ Below w1.heap.size w1 wr)
 case atStart => exact ⟨0, by omega, rfl, Below.refl _ _⟩
 case round =>
  obtain ⟨i, hi, rfl, hbw⟩ := hrel
  have HI := Lib.hid hi
  have HB := Lib.hid hbw
  have HLI := Lib.hid (blk_keep hbw HL1.out)
  have HSI := Lib.hid (blk_keep hbw HS1.out)
  have HII := Lib.hid (blk_keep hbw HI1.out)
  have HOI := Lib.hid (blk_keep hbw HO1.out)
  have l3 := blk_cell HLI.out 3 _ rfl
  clear hi hbw
  by_cases hlt : i < n4
  ·have d1 : (0 : Int) ≤ i := by omega
   have d2 : (i : Int) < n4 := by omega
   have e1 := k_succ hlt (Nat.le_trans HS4.out (by decide))
   have HLT := Lib.hid hlt
   have HBI := Lib.hid (below_on HB1.out HB.out)
   have hli := HLI.out
   rcases HLW.out.rt.row with hnil | ⟨xb, off, hxb, hc0⟩
   ·have := HN4.out; rw [hnil] at this; simp at this; omega
   have hc := fun i c hi j v hv => cell_later (HBI.out) (hc0 i c hi j v hv)
   obtain ⟨x, hyx⟩ : ∃ y, L.rt.l[i]? = some y := ⟨_, List.getElem?_eq_getElem (by rw [HN4.out]; exact hlt)⟩
   have z0 := hc i _ hyx 0 _ rfl
   have z1 := hc i _ hyx 1 _ rfl
   have z2 := hc i _ hyx 2 _ rfl
   have z3 := hc i _ hyx 3 _ rfl
   have z4 := hc i _ hyx 4 _ rfl
   have z5 := hc i _ hyx 5 _ rfl
   rw [Nat.add_zero] at z0
   obtain ⟨p1, hp1⟩ : ∃ n, x.pa.l.length = n := ⟨_, rfl⟩
   obtain ⟨p2, hp2⟩ : ∃ n, x.po.l.length = n := ⟨_, rfl⟩
   obtain ⟨p3, hp3⟩ : ∃ n, x.ov.l.length = n := ⟨_, rfl⟩
   obtain ⟨p4, hp4⟩ : ∃ n, x.fl.l.length = n := ⟨_, rfl⟩
   rw [slv hp1] at z2
   rw [slv hp2] at z3
   rw [slv hp3] at z4
   rw [slv hp4] at z5
   have HZX := Lib.hid (And.intro z0 (And.intro z1 (And.intro z2 (And.intro z3 (And.intro z4 z5)))))
   clear z0 z1 z2 z3 z4 z5
   obtain ⟨X, hX⟩ : ∃ x, L.rt.a = x := ⟨_, rfl⟩
   have HXX := Lib.hid hX
   rw [hX] at hxb l3 hli KPR ⊢
   subst hxb
   have hxm := List.mem_of_getElem? hyx
   have HYX := Lib.hid hyx
   have HLI := Lib.hid hli
   obtain ⟨z0, z1, z2, z3, z4, z5⟩ := HZX.out
   have KND : Hid (∀ V, Below wr.heap.size wr V → Calls Try.prog 45 #[.agg #[.string x.nm, .int .i64 x.sg, x.pa.v, x.po.v, x.ov.v, x.fl.v]] V fun e w' => ∃ v, e = .returned v ∧ RwA 2 ndC w' x.nd v ∧ Below V.heap.size V w') := Lib.hid (fun V hV => by
    have ok := mayS_rt HMAY.out x hxm
    refine (rneeds_is x V ((HLW.out.rn x hxm).below (below_on HBI.out hV)) (by have := ok.po; have := ok.fl; omega)).mono (fun _ _ ⟨a, n, c, h1, h2, h3, h4⟩ => ⟨_, h1, rwa_mk ?_ (by unfold Rt.nd; exact h3), h4⟩)
    rw [h2]; unfold Rt.nd; rw [List.length_append])
   have KTR : Hid (∀ V, Below wr.heap.size wr V → Calls Try.prog 48 #[.agg #[.string x.nm, .int .i64 x.sg, x.pa.v, x.po.v, x.ov.v, x.fl.v]] V fun e w' => ∃ v, e = .returned v ∧ RwA 1 intC w' x.tr v ∧ Below V.heap.size V w') := Lib.hid (fun V hV => by
    have ok := mayS_rt HMAY.out x hxm
    refine (rtrack_is x V ((HLW.out.rn x hxm).below (below_on HBI.out hV)) (by have := ok.pa; have := ok.ov; omega)).mono (fun _ _ ⟨a, n, c, h1, h2, h3, h4⟩ => ⟨_, h1, rwa_mk ?_ (by unfold Rt.tr; exact h3), h4⟩)
    rw [h2]; unfold Rt.tr; rw [List.length_append])
   have HNL : Hid (x.nd.length ≤ 100000) := Lib.hid (by have ok := mayS_rt HMAY.out x hxm; have := ok.po; have := ok.fl; unfold Rt.nd; rw [List.length_append]; omega)
   have HTL : Hid (x.tr.length ≤ 100000) := Lib.hid (by have ok := mayS_rt HMAY.out x hxm; have := ok.pa; have := ok.ov; unfold Rt.tr; rw [List.length_append]; omega)
   have HNB : Hid (∀ n ∈ x.nd, 0 ≤ n.1 ∧ n.1 ≤ 31) := Lib.hid (fun n hn => by have h := t_nd HMAY.out x hxm n hn; have := (mayS_small HMAY.out).2.1; omega)
   have HTB63 : Hid (∀ n ∈ x.tr, 0 ≤ n ∧ n ≤ 63) := Lib.hid (fun n hn => by have h := t_tr HMAY.out x hxm n hn; have := (mayS_small HMAY.out).1; omega)
   rw [slv hp1, slv hp2, slv hp3, slv hp4] at KND KTR
   obtain ⟨bl, hbl⟩ : ∃ b, hasBit s.lk i = b := ⟨_, rfl⟩
   obtain ⟨bo, hbo⟩ : ∃ b, hasBit OP i = b := ⟨_, rfl⟩
   have HLN := ln_iff.1 (HRG.out.li i _ (tbl_at hyx))
   have HPP := fun h => pro_parts (T := tbL L) (t := s) (oc := oc) (no := no) (re := re) (i := i) (by rw [HOPE.out]; exact h)
   have HOFF : Hid (bl = false → bo = false) := Lib.hid (fun h => by
    cases bo with
    | false => rfl
    | true =>
      obtain ⟨_, y, _, h2, _⟩ := HPP hbo
      rw [hbl, h] at h2
      cases h2)
   have HFNT : Hid (bl = true → ∀ m ∈ x.nd, hasBit s.pt m.1.toNat = m.2) := Lib.hid (fun h => by have h2 := (HLN (hbl.trans h)).2; rw [rwl_nd] at h2; exact h2)
   have HFSD : Hid (bo = true → ∀ m ∈ x.nd, hasBit (if m.2 then sideN re no else sideN no re) m.1.toNat = true) := Lib.hid (fun h => by
    obtain ⟨_, y, hy, _, _, h3⟩ := HPP (hbo.trans h)
    rw [tbl_at hyx] at hy
    cases hy
    rw [rwl_nd] at h3
    exact h3)
   have HFTR : Hid (bo = true → ∀ k ∈ x.tr, hasBit oc k.toNat = false) := Lib.hid (fun h => by
    obtain ⟨_, y, hy, _, h3, _⟩ := HPP (hbo.trans h)
    rw [tbl_at hyx] at hy
    cases hy
    rw [rwl_tr] at h3
    exact h3)
   have HFPR : Hid (bl = true → ∀ k, k < i → hasBit s.lk k = true → pairS L (i : Int) (k : Int) = false) := Lib.hid (fun h k hk hlk => by
    cases hp : pairS L (i : Int) (k : Int) with
    | false => rfl
    | true =>
      have h3 := (HLN (hbl.trans h)).1 (k : Int) ((cf_pair HCK.out).2 ⟨by have := HN4.out; have := HLT.out; omega, hp⟩)
      rw [Int.toNat_natCast, hlk] at h3
      cases h3)
   have KHS : Hid (∀ V, Calls Try.prog 22 #[.int .u64 (s.lk : Int), .int .i64 (i : Int)] V fun e w' => e = .returned (.bool bl) ∧ Below V.heap.size V w') := Lib.hid (fun V => dhas_is bl s.lk i V (by have := HLT.out; have := HS4.out; omega) HSO.out.lk hbl)
   have KHO : Hid (∀ V, Calls Try.prog 22 #[.int .u64 (OP : Int), .int .i64 (i : Int)] V fun e w' => e = .returned (.bool bo) ∧ Below V.heap.size V w') := Lib.hid (fun V => dhas_is bo OP i V (by have := HLT.out; have := HS4.out; omega) HOL.out hbo)
   clear hc hc0 hyx hxm hp1 hp2 hp3 hp4 hX hlt hbl hbo hli HLN HPP
   go_upto_region 6 with fail
   have hbx := below1 wr (.cells #[.string x.nm, .int .i64 x.sg, .slice x.pa.a p1 x.pa.c, .slice x.po.a p2 x.po.c, .slice x.ov.a p3 x.ov.c, .slice x.fl.a p4 x.fl.c] 44)
   have hqx := alloc1 wr (.cells #[.string x.nm, .int .i64 x.sg, .slice x.pa.a p1 x.pa.c, .slice x.po.a p2 x.po.c, .slice x.ov.a p3 x.ov.c, .slice x.fl.a p4 x.fl.c] 44) (Below.refl _ _)
   obtain ⟨w6, hw6⟩ : ∃ W, W = wr.alloc (.cells #[.string x.nm, .int .i64 x.sg, .slice x.pa.a p1 x.pa.c, .slice x.po.a p2 x.po.c, .slice x.ov.a p3 x.ov.c, .slice x.fl.a p4 x.fl.c] 44) := ⟨_, rfl⟩
   rw [← hw6] at hbx hqx ⊢
   obtain ⟨gr, hgr⟩ : ∃ g, g = wr.heap.size := ⟨_, rfl⟩
   rw [← hgr] at hqx ⊢
   have HR60 := Lib.hid hqx
   have HB6 := Lib.hid hbx
   clear hbx hqx hw6 hgr z0 z1 z2 z3 z4 z5 l3
   have s0 := blk_cell (blk_keep HB6.out HSI.out) 0 _ (st_0 s)
   go_wp2_with fail
   refine (KHS.out _).mono ?_
   rintro e w9 ⟨rfl, hb9⟩
   have HB9 := Lib.hid (below_on HB6.out hb9)
   have HR6 := Lib.hid (blk_keep hb9 HR60.out)
   have HL9 := Lib.hid (blk_keep HB9.out HLI.out)
   have HS9 := Lib.hid (blk_keep HB9.out HSI.out)
   have HI9 := Lib.hid (blk_keep HB9.out HII.out)
   have HO9 := Lib.hid (blk_keep HB9.out HOI.out)
   have HB91 := Lib.hid (below_on HB.out HB9.out)
   clear s0 hb9 HB6 HR60
   cases bl with
   | false =>
     have hbo : bo = false := HOFF.out rfl
     subst hbo
     have o0 := blk_cell HO9.out 0 _ rfl
     go_wp2_with fail
     refine (KHO.out _).mono ?_
     rintro e w10 ⟨rfl, hb10⟩
     have HB10 := Lib.hid (below_on HB91.out hb10)
     clear o0 hb10
     go_wp2_with fail
     rw [← HXX.out]
     go_roundg (n4 - (i + 1))
     case rel => exact ⟨i + 1, k_next HI.out HLT.out, by go_num, HB10.out⟩
     case measure => exact k_less HI.out HLT.out
   | true =>
     have HFN := Lib.hid (HFNT.out rfl)
     have HFP := Lib.hid (HFPR.out rfl)
     have KTR9 := Lib.hid (fun V hV => KTR.out V (below_on HB9.out hV))
     have KND9 := Lib.hid (fun V hV => KND.out V (below_on HB9.out hV))
     clear d1 d2 KTR KND HB9
     have HB9 := HB91
     have KTR := KTR9
     have KND := KND9
     clear KTR9 KND9 HFNT HFPR HOFF HB91
     cases bo with
     | false =>
       go_upto_region 9 with fail
       refine wp_region_rel (by kernel_rfl) [] 8 [0, 1, 2, 3, 4, 5] [45, 46, 47, 48, 13, 14] #[true, true, true, true, true, true] 0 [(fun v _ => v = .agg #[.string x.nm, .int .i64 x.sg, .slice x.pa.a p1 x.pa.c, .slice x.po.a p2 x.po.c, .slice x.ov.a p3 x.ov.c, .slice x.fl.a p4 x.fl.c]), (fun v V => RwA 1 intC V x.tr v), (fun v _ => v = .agg #[.string x.nm, .int .i64 x.sg, .slice x.pa.a p1 x.pa.c, .slice x.po.a p2 x.po.c, .slice x.ov.a p3 x.ov.c, .slice x.fl.a p4 x.fl.c]), (fun v V => RwA 2 ndC V x.nd v), (fun v V => RwA 1 intC V x.tr v), (fun v V => RwA 2 ndC V x.nd v)] (by kernel_rfl) (by kernel_rfl) (by kernel_rfl) (by kernel_rfl) (by kernel_rfl) rfl (by kernel_rfl) rfl ?_ ?_ ?_
       ·exact ⟨stays_is _, (fun v W W2 h hb => h.below hb), stays_is _, (fun v W W2 h hb => h.below hb), (fun v W W2 h hb => h.below hb), (fun v W W2 h hb => h.below hb), trivial⟩
       ·refine ⟨?_, ?_, ?_, ?_, ?_, ?_, trivial⟩
        ·refine relOb_mk (o := ⟨some 45, _, _, _, _, _⟩) rfl (fun r V hc hf hg hs hb hd => ?_)
         have x12 : r (.tmp 12) = .pointer (some ⟨gr, 0, none⟩) := hs 12 (by kernel_rfl)
         clear hs hd hg
         have l0 := blk_cell (blk_keep hb HR6.out) 0 _ rfl
         have l1 := blk_cell (blk_keep hb HR6.out) 1 _ rfl
         have l2 := blk_cell (blk_keep hb HR6.out) 2 _ rfl
         have l3 := blk_cell (blk_keep hb HR6.out) 3 _ rfl
         have l4 := blk_cell (blk_keep hb HR6.out) 4 _ rfl
         have l5 := blk_cell (blk_keep hb HR6.out) 5 _ rfl
         go_simp
         exact ⟨Below.refl _ _, rfl⟩
        ·refine relOb_mk (o := ⟨some 46, _, _, _, _, _⟩) rfl (fun r V hc hf hg hs hb hd => ?_)
         have h0 : r (.tmp 45) = .agg #[.string x.nm, .int .i64 x.sg, .slice x.pa.a p1 x.pa.c, .slice x.po.a p2 x.po.c, .slice x.ov.a p3 x.ov.c, .slice x.fl.a p4 x.fl.c] := hd 0 45 rfl (by kernel_rfl)
         clear hs hd hg
         go_simp
         refine (KTR.out V hb).mono ?_
         rintro e w' ⟨v, rfl, h2, h3⟩
         exact ⟨_, rfl, h3, h2⟩
        ·refine relOb_mk (o := ⟨some 47, _, _, _, _, _⟩) rfl (fun r V hc hf hg hs hb hd => ?_)
         have x12 : r (.tmp 12) = .pointer (some ⟨gr, 0, none⟩) := hs 12 (by kernel_rfl)
         clear hs hd hg
         have l0 := blk_cell (blk_keep hb HR6.out) 0 _ rfl
         have l1 := blk_cell (blk_keep hb HR6.out) 1 _ rfl
         have l2 := blk_cell (blk_keep hb HR6.out) 2 _ rfl
         have l3 := blk_cell (blk_keep hb HR6.out) 3 _ rfl
         have l4 := blk_cell (blk_keep hb HR6.out) 4 _ rfl
         have l5 := blk_cell (blk_keep hb HR6.out) 5 _ rfl
         go_simp
         exact ⟨Below.refl _ _, rfl⟩
        ·refine relOb_mk (o := ⟨some 48, _, _, _, _, _⟩) rfl (fun r V hc hf hg hs hb hd => ?_)
         have h2 : r (.tmp 47) = .agg #[.string x.nm, .int .i64 x.sg, .slice x.pa.a p1 x.pa.c, .slice x.po.a p2 x.po.c, .slice x.ov.a p3 x.ov.c, .slice x.fl.a p4 x.fl.c] := hd 2 47 rfl (by kernel_rfl)
         clear hs hd hg
         go_simp
         refine (KND.out V hb).mono ?_
         rintro e w' ⟨v, rfl, h2, h3⟩
         exact ⟨_, rfl, h3, h2⟩
        ·refine relOb_mk (o := ⟨some 13, _, _, _, _, _⟩) rfl (fun r V hc hf hg hs hb hd => ?_)
         have h1 : (fun v V => RwA 1 intC V x.tr v) (r (.tmp 46)) V := hd 1 46 rfl (by kernel_rfl)
         clear hs hd hg
         go_simp
         exact ⟨Below.refl _ _, h1⟩
        ·refine relOb_mk (o := ⟨some 14, _, _, _, _, _⟩) rfl (fun r V hc hf hg hs hb hd => ?_)
         have h3 : (fun v V => RwA 2 ndC V x.nd v) (r (.tmp 48)) V := hd 3 48 rfl (by kernel_rfl)
         clear hs hd hg
         go_simp
         exact ⟨Below.refl _ _, h3⟩
       ·intro a V hb hx
        have h0 : a.eval (.tmp 45) = .agg #[.string x.nm, .int .i64 x.sg, .slice x.pa.a p1 x.pa.c, .slice x.po.a p2 x.po.c, .slice x.ov.a p3 x.ov.c, .slice x.fl.a p4 x.fl.c] := hx 0 45 rfl rfl
        have h1 : (fun v V => RwA 1 intC V x.tr v) (a.eval (.tmp 46)) V := hx 1 46 rfl rfl
        obtain ⟨v46, e46⟩ : ∃ v, a.eval (.tmp 46) = v := ⟨_, rfl⟩
        rw [e46] at h1
        have h2 : a.eval (.tmp 47) = .agg #[.string x.nm, .int .i64 x.sg, .slice x.pa.a p1 x.pa.c, .slice x.po.a p2 x.po.c, .slice x.ov.a p3 x.ov.c, .slice x.fl.a p4 x.fl.c] := hx 2 47 rfl rfl
        have h3 : (fun v V => RwA 2 ndC V x.nd v) (a.eval (.tmp 48)) V := hx 3 48 rfl rfl
        obtain ⟨v48, e48⟩ : ∃ v, a.eval (.tmp 48) = v := ⟨_, rfl⟩
        rw [e48] at h3
        have h4 : (fun v V => RwA 1 intC V x.tr v) (a.eval (.tmp 13)) V := hx 4 13 rfl rfl
        obtain ⟨v13, e13⟩ : ∃ v, a.eval (.tmp 13) = v := ⟨_, rfl⟩
        rw [e13] at h4
        have h5 : (fun v V => RwA 2 ndC V x.nd v) (a.eval (.tmp 14)) V := hx 5 14 rfl rfl
        obtain ⟨v14, e14⟩ : ∃ v, a.eval (.tmp 14) = v := ⟨_, rfl⟩
        rw [e14] at h5
        unfold fillAll
        simp only [List.foldl_cons, List.foldl_nil, h0, e46, h2, e48, e13, e14, Act.put, List.setIfInBounds_toArray, List.set_cons_zero, List.set_cons_succ]
        clear h0 e46 h2 e48 e13 e14 hx
        unfold RwA at h1 h3 h4 h5
        obtain ⟨ua, un, uc, k1, hun, hU⟩ := h4
        obtain ⟨ta, tn, tc, k2, htn, hT⟩ := h5
        subst k1
        subst k2
        obtain ⟨_, _, _, k3, _, _⟩ := h1
        obtain ⟨_, _, _, k4, _, _⟩ := h3
        subst k3
        subst k4
        have HBv := Lib.hid (below_on HB9.out hb)
        have HBv1 := Lib.hid hb
        have HT := Lib.hid hT.row
        have HTN := Lib.hid htn
        have HU := Lib.hid hU.row
        have HUN := Lib.hid hun
        have HTM : Hid (tn ≤ 100000) := Lib.hid (by rw [htn]; exact HNL.out)
        have HUM : Hid (un ≤ 100000) := Lib.hid (by rw [hun]; exact HTL.out)
        clear hun hU htn hT hb
        refine wpAny_done (by kernel_rfl) ?_ _
        go_upto_region 11 with fail
        go_loopg [15] tn (fun g v wq => ∃ k : Nat, k + g = tn ∧ v = .int .i64 (k : Int) ∧ Below V.heap.size V wq)
        case atStart => exact ⟨0, by omega, rfl, Below.refl _ _⟩
        case round =>
         obtain ⟨k, hk, rfl, hbw⟩ := hrel
         have HK := Lib.hid hk
         have HBQ := Lib.hid hbw
         have HOQ := Lib.hid (blk_keep (below_on HBv1.out hbw) HO9.out)
         have HBW9q := Lib.hid (below_on HBv1.out hbw)
         clear hk hbw
         by_cases hlk : k < tn
         ·skip
          have d3 : (0 : Int) ≤ k := by omega
          have d4 : (k : Int) < tn := by omega
          have e2 := k_succ hlk (Nat.le_trans HTM.out (by decide))
          have HLK := Lib.hid hlk
          obtain ⟨⟨sj, B⟩, hs⟩ : ∃ s, x.nd[k]? = some s := ⟨_, List.getElem?_eq_getElem (by have := HTN.out; omega)⟩
          have hsb := HNB.out _ (List.mem_of_getElem? hs)
          dsimp only at hsb
          obtain ⟨j, rfl⟩ : ∃ j : Nat, sj = j := ⟨sj.toNat, by omega⟩
          have HJ31 : Hid (j ≤ 31) := Lib.hid (by omega)
          obtain ⟨A, hA⟩ : ∃ x, ta = x := ⟨_, rfl⟩
          have HAA := Lib.hid hA
          have hrow := HT.out
          rw [hA] at hrow ⊢
          rcases hrow with hnil | ⟨tb, toff, htb, ht0⟩
          ·have := HTN.out; rw [hnil] at this; simp at this; omega
          subst htb
          have t0 := cell_later HBQ.out (ht0 k _ hs 0 (.int .i64 (j : Int)) rfl)
          have t1 := cell_later HBQ.out (ht0 k _ hs 1 (.bool B) rfl)
          rw [Nat.add_zero] at t0
          have HSK := Lib.hid hs
          clear ht0 hs hsb hlk hA
          have HT0 := Lib.hid t0
          have HT1 := Lib.hid t1
          clear t0 t1
          cases B with
          | false =>
            have HPB : Hid (hasBit s.pt j = false) := Lib.hid (HFN.out ((j : Int), false) (List.mem_of_getElem? HSK.out))
            have hq1 : (bits .and .u32 ((s.pt : Int) / 2 ^ j) 1 == 1) = false := by rw [has_eq32 _ _ HSO.out.pt]; exact HPB.out
            have hj1 : min j 32 = j := by have := HJ31.out; omega
            have hj2 : ¬ (32 : Int) ≤ (j : Int) := by have := HJ31.out; omega
            have hj3 : (0 : Int) ≤ (j : Int) := by omega
            clear HBW9q
            go_upto_region 13 with fail
            refine wp_region_calm (by kernel_rfl) ?_ ?_
            ·kernel_rfl
            repeat first
             | go_big_quiet_skip
             | (go_big_quiet_want; go_big_quiet_op; go_big_quiet_on)
             | (with_reducible apply wpQuiet_step
                intro K hK
                go_simp
                first
                 | (refine hK _ ?_; clear hK K)
                 | (apply Exists.intro
                    refine ⟨fun w' hw' => ?_, hK _ ?_⟩
                    ·
                     (first
                      | (have o1 := blk_cell (blk_keep hw' HOQ.out) 1 _ rfl
                         go_simp
                         first | done | with_reducible exact rfl | with_reducible exact ⟨rfl, rfl⟩)
                      | (have t0 := cell_later hw' HT0.out
                         go_simp
                         first | done | with_reducible exact rfl | with_reducible exact ⟨rfl, rfl⟩)
                      | (have t1 := cell_later hw' HT1.out
                         go_simp
                         first | done | with_reducible exact rfl | with_reducible exact ⟨rfl, rfl⟩))
                    clear hK K))
            refine wpQuiet_nil ?_
            intro w7 hw7
            have HB7 := Lib.hid (below_on HBQ.out hw7)
            have HBW7 := Lib.hid hw7
            clear hw7
            clear hq1
            have t0 := cell_later HBW7.out HT0.out
            have t1 := cell_later HBW7.out HT1.out
            have o0 := blk_cell (blk_keep HBW7.out HOQ.out) 0 _ rfl
            clear HBW7
            go_wp2_with fail
            refine (KHO.out _).mono ?_
            rintro e wz ⟨rfl, hbz⟩
            have HBZ := Lib.hid (below_on HB7.out hbz)
            clear t0 t1 o0 hbz
            go_wp2_with fail
            rw [← HAA.out]
            go_roundg (tn - (k + 1))
            case rel => exact ⟨k + 1, k_next HK.out HLK.out, by go_num, HBZ.out⟩
            case measure => exact k_less HK.out HLK.out
          | true =>
            have HPB : Hid (hasBit s.pt j = true) := Lib.hid (HFN.out ((j : Int), true) (List.mem_of_getElem? HSK.out))
            have hq1 : (bits .and .u32 ((s.pt : Int) / 2 ^ j) 1 == 1) = true := by rw [has_eq32 _ _ HSO.out.pt]; exact HPB.out
            have hj1 : min j 32 = j := by have := HJ31.out; omega
            have hj2 : ¬ (32 : Int) ≤ (j : Int) := by have := HJ31.out; omega
            have hj3 : (0 : Int) ≤ (j : Int) := by omega
            clear HBW9q
            go_upto_region 13 with fail
            refine wp_region_calm (by kernel_rfl) ?_ ?_
            ·kernel_rfl
            repeat first
             | go_big_quiet_skip
             | (go_big_quiet_want; go_big_quiet_op; go_big_quiet_on)
             | (with_reducible apply wpQuiet_step
                intro K hK
                go_simp
                first
                 | (refine hK _ ?_; clear hK K)
                 | (apply Exists.intro
                    refine ⟨fun w' hw' => ?_, hK _ ?_⟩
                    ·
                     (first
                      | (have o1 := blk_cell (blk_keep hw' HOQ.out) 1 _ rfl
                         go_simp
                         first | done | with_reducible exact rfl | with_reducible exact ⟨rfl, rfl⟩)
                      | (have t0 := cell_later hw' HT0.out
                         go_simp
                         first | done | with_reducible exact rfl | with_reducible exact ⟨rfl, rfl⟩)
                      | (have t1 := cell_later hw' HT1.out
                         go_simp
                         first | done | with_reducible exact rfl | with_reducible exact ⟨rfl, rfl⟩))
                    clear hK K))
            refine wpQuiet_nil ?_
            intro w7 hw7
            have HB7 := Lib.hid (below_on HBQ.out hw7)
            have HBW7 := Lib.hid hw7
            clear hw7
            clear hq1
            have t0 := cell_later HBW7.out HT0.out
            have t1 := cell_later HBW7.out HT1.out
            have o0 := blk_cell (blk_keep HBW7.out HOQ.out) 0 _ rfl
            clear HBW7
            go_wp2_with fail
            refine (KHO.out _).mono ?_
            rintro e wz ⟨rfl, hbz⟩
            have HBZ := Lib.hid (below_on HB7.out hbz)
            clear t0 t1 o0 hbz
            go_wp2_with fail
            rw [← HAA.out]
            go_roundg (tn - (k + 1))
            case rel => exact ⟨k + 1, k_next HK.out HLK.out, by go_num, HBZ.out⟩
            case measure => exact k_less HK.out HLK.out
         ·have d4 : ¬ ((k : Int) < tn) := by omega
          clear hlk
          go_upto_region 20 with fail
          obtain ⟨wc, hwc⟩ : ∃ W, W = wr := ⟨_, rfl⟩
          rw [← hwc] at HBQ HBW9q ⊢
          have HBc9 := HBW9q
          have HBvc := HBQ
          have HBc : Hid (Below w1.heap.size w1 wc) := Lib.hid (below_on HBv.out HBQ.out)
          clear hwc d4
          go_upto_region 21 with fail
          go_loopg [17] un (fun g v wq => ∃ k : Nat, k + g = un ∧ v = .int .i64 (k : Int) ∧ k = 0 ∧ Below wc.heap.size wc wq)
          case atStart => exact ⟨0, by omega, rfl, rfl, Below.refl _ _⟩
          case round =>
           obtain ⟨k, hk, rfl, ho, hbw⟩ := hrel
           subst ho
           have HBQ1 := Lib.hid hbw
           have HLQ := Lib.hid (blk_keep (below_on HBc9.out hbw) HL9.out)
           have HSQ := Lib.hid (blk_keep (below_on HBc9.out hbw) HS9.out)
           have o0 := blk_cell (blk_keep (below_on HBc9.out hbw) HO9.out) 0 _ rfl
           clear hk hbw
           by_cases hlk : 0 < un
           ·have d4 : ((0 : Nat) : Int) < (un : Int) := by omega
            clear hlk
            go_wp2_with fail
            refine (KHO.out _).mono ?_
            rintro e wz ⟨rfl, hbz⟩
            have HBZ := Lib.hid (below_on HBQ1.out hbz)
            have HZ0 := Lib.hid hbz
            clear hbz o0 d4
            obtain ⟨wb, hwb⟩ : ∃ W, W = wz := ⟨_, rfl⟩
            have HBb : Hid (Below w1.heap.size w1 wb) := Lib.hid (by rw [hwb]; exact below_on HBc.out HBZ.out)
            have HBWb := Lib.hid (below_on HB1.out HBb.out)
            have HSb : Hid (wb.heap[gs]? = some (.cells (stL s).toArray 32)) := Lib.hid (by rw [hwb]; exact blk_keep HZ0.out HSQ.out)
            have HLb : Hid (wb.heap[gl]? = some (.cells #[.slice L.se.a n1 L.se.c, .slice L.po.a n2 L.po.c, .slice L.sg.a n3 L.sg.c, .slice (some ⟨xb, off, none⟩) n4 L.rt.c] 27)) := Lib.hid (by rw [hwb]; exact blk_keep HZ0.out HLQ.out)
            rw [← hwb]
            clear hwb
            go_upto_region 26 with fail
            go_loopg [18] i (fun g v wq => ∃ k : Nat, k + g = i ∧ v = .int .i64 (k : Int) ∧ Below wb.heap.size wb wq)
            case atStart => exact ⟨0, by omega, rfl, Below.refl _ _⟩
            case round =>
             obtain ⟨k, hk, rfl, hbw⟩ := hrel
             have HK := Lib.hid hk
             have HBQ := Lib.hid hbw
             have HSQ2 := Lib.hid (blk_keep hbw HSb.out)
             have HLQ2 := Lib.hid (blk_keep hbw HLb.out)
             clear hk hbw
             by_cases hlk : k < i
             ·have d4 : (k : Int) < (i : Int) := by omega
              have e2 := k_succ hlk (Nat.le_trans (Nat.le_of_lt HLT.out) (Nat.le_trans HS4.out (by decide)))
              have HLK := Lib.hid hlk
              have s0 := blk_cell HSQ2.out 0 _ (st_0 s)
              obtain ⟨bk, hbk⟩ : ∃ b, hasBit s.lk k = b := ⟨_, rfl⟩
              have HBK := Lib.hid hbk
              have KHK : Hid (∀ V, Calls Try.prog 22 #[.int .u64 (s.lk : Int), .int .i64 (k : Int)] V fun e w' => e = .returned (.bool bk) ∧ Below V.heap.size V w') := Lib.hid (fun V => dhas_is bk s.lk k V (by have := HLK.out; have := HLT.out; have := HS4.out; omega) HSO.out.lk hbk)
              clear hbk hlk
              go_wp2_with fail
              refine (KHK.out _).mono ?_
              rintro e wz ⟨rfl, hbz⟩
              have HBZ := Lib.hid (below_on HBQ.out hbz)
              have HLQ3 := Lib.hid (blk_keep hbz HLQ2.out)
              clear s0 hbz
              cases bk with
              | false =>
                go_wp2_with fail
                go_roundg (i - (k + 1))
                case rel => exact ⟨k + 1, k_next HK.out HLK.out, by go_num, HBZ.out⟩
                case measure => exact k_less HK.out HLK.out
              | true =>
                have KP := Lib.hid (fun V hV => KPR.out i k (HFP.out k HLK.out HBK.out) V (below_on HBWb.out (below_on HBZ.out hV)))
                have l0 := blk_cell HLQ3.out 0 _ rfl
                have l1 := blk_cell HLQ3.out 1 _ rfl
                have l2 := blk_cell HLQ3.out 2 _ rfl
                have l3 := blk_cell HLQ3.out 3 _ rfl
                go_wp2_with fail
                refine (KP.out _ (Below.refl _ _)).mono ?_
                rintro e wy ⟨rfl, hby⟩
                have HBY := Lib.hid (below_on HBZ.out hby)
                clear hby l0 l1 l2 l3
                go_wp2_with fail
                go_roundg (i - (k + 1))
                case rel => exact ⟨k + 1, k_next HK.out HLK.out, by go_num, HBY.out⟩
                case measure => exact k_less HK.out HLK.out
             ·have d4 : ¬ ((k : Int) < (i : Int)) := by omega
              clear hlk
              go_wp2_with fail
              rw [← HXX.out]
              go_roundg (n4 - (i + 1))
              case rel => exact ⟨i + 1, k_next HI.out HLT.out, by go_num, below_on HBb.out HBQ.out⟩
              case measure => exact k_less HI.out HLT.out
           ·have d4 : ¬ (((0 : Nat) : Int) < (un : Int)) := by omega
            clear hlk o0
            obtain ⟨wb, hwb⟩ : ∃ W, W = wr := ⟨_, rfl⟩
            have HBb : Hid (Below w1.heap.size w1 wb) := Lib.hid (by rw [hwb]; exact below_on HBc.out HBQ1.out)
            have HBWb := Lib.hid (below_on HB1.out HBb.out)
            have HSb : Hid (wb.heap[gs]? = some (.cells (stL s).toArray 32)) := Lib.hid (by rw [hwb]; exact HSQ.out)
            have HLb : Hid (wb.heap[gl]? = some (.cells #[.slice L.se.a n1 L.se.c, .slice L.po.a n2 L.po.c, .slice L.sg.a n3 L.sg.c, .slice (some ⟨xb, off, none⟩) n4 L.rt.c] 27)) := Lib.hid (by rw [hwb]; exact HLQ.out)
            rw [← hwb]
            clear hwb
            go_upto_region 26 with fail
            go_loopg [18] i (fun g v wq => ∃ k : Nat, k + g = i ∧ v = .int .i64 (k : Int) ∧ Below wb.heap.size wb wq)
            case atStart => exact ⟨0, by omega, rfl, Below.refl _ _⟩
            case round =>
             obtain ⟨k, hk, rfl, hbw⟩ := hrel
             have HK := Lib.hid hk
             have HBQ := Lib.hid hbw
             have HSQ2 := Lib.hid (blk_keep hbw HSb.out)
             have HLQ2 := Lib.hid (blk_keep hbw HLb.out)
             clear hk hbw
             by_cases hlk : k < i
             ·have d4 : (k : Int) < (i : Int) := by omega
              have e2 := k_succ hlk (Nat.le_trans (Nat.le_of_lt HLT.out) (Nat.le_trans HS4.out (by decide)))
              have HLK := Lib.hid hlk
              have s0 := blk_cell HSQ2.out 0 _ (st_0 s)
              obtain ⟨bk, hbk⟩ : ∃ b, hasBit s.lk k = b := ⟨_, rfl⟩
              have HBK := Lib.hid hbk
              have KHK : Hid (∀ V, Calls Try.prog 22 #[.int .u64 (s.lk : Int), .int .i64 (k : Int)] V fun e w' => e = .returned (.bool bk) ∧ Below V.heap.size V w') := Lib.hid (fun V => dhas_is bk s.lk k V (by have := HLK.out; have := HLT.out; have := HS4.out; omega) HSO.out.lk hbk)
              clear hbk hlk
              go_wp2_with fail
              refine (KHK.out _).mono ?_
              rintro e wz ⟨rfl, hbz⟩
              have HBZ := Lib.hid (below_on HBQ.out hbz)
              have HLQ3 := Lib.hid (blk_keep hbz HLQ2.out)
              clear s0 hbz
              cases bk with
              | false =>
                go_wp2_with fail
                go_roundg (i - (k + 1))
                case rel => exact ⟨k + 1, k_next HK.out HLK.out, by go_num, HBZ.out⟩
                case measure => exact k_less HK.out HLK.out
              | true =>
                have KP := Lib.hid (fun V hV => KPR.out i k (HFP.out k HLK.out HBK.out) V (below_on HBWb.out (below_on HBZ.out hV)))
                have l0 := blk_cell HLQ3.out 0 _ rfl
                have l1 := blk_cell HLQ3.out 1 _ rfl
                have l2 := blk_cell HLQ3.out 2 _ rfl
                have l3 := blk_cell HLQ3.out 3 _ rfl
                go_wp2_with fail
                refine (KP.out _ (Below.refl _ _)).mono ?_
                rintro e wy ⟨rfl, hby⟩
                have HBY := Lib.hid (below_on HBZ.out hby)
                clear hby l0 l1 l2 l3
                go_wp2_with fail
                go_roundg (i - (k + 1))
                case rel => exact ⟨k + 1, k_next HK.out HLK.out, by go_num, HBY.out⟩
                case measure => exact k_less HK.out HLK.out
             ·have d4 : ¬ ((k : Int) < (i : Int)) := by omega
              clear hlk
              go_wp2_with fail
              rw [← HXX.out]
              go_roundg (n4 - (i + 1))
              case rel => exact ⟨i + 1, k_next HI.out HLT.out, by go_num, below_on HBb.out HBQ.out⟩
              case measure => exact k_less HI.out HLT.out
     | true =>
       have HFS := Lib.hid (HFSD.out rfl)
       have HFT := Lib.hid (HFTR.out rfl)
       go_upto_region 9 with fail
       refine wp_region_rel (by kernel_rfl) [] 8 [0, 1, 2, 3, 4, 5] [45, 46, 47, 48, 13, 14] #[true, true, true, true, true, true] 0 [(fun v _ => v = .agg #[.string x.nm, .int .i64 x.sg, .slice x.pa.a p1 x.pa.c, .slice x.po.a p2 x.po.c, .slice x.ov.a p3 x.ov.c, .slice x.fl.a p4 x.fl.c]), (fun v V => RwA 1 intC V x.tr v), (fun v _ => v = .agg #[.string x.nm, .int .i64 x.sg, .slice x.pa.a p1 x.pa.c, .slice x.po.a p2 x.po.c, .slice x.ov.a p3 x.ov.c, .slice x.fl.a p4 x.fl.c]), (fun v V => RwA 2 ndC V x.nd v), (fun v V => RwA 1 intC V x.tr v), (fun v V => RwA 2 ndC V x.nd v)] (by kernel_rfl) (by kernel_rfl) (by kernel_rfl) (by kernel_rfl) (by kernel_rfl) rfl (by kernel_rfl) rfl ?_ ?_ ?_
       ·exact ⟨stays_is _, (fun v W W2 h hb => h.below hb), stays_is _, (fun v W W2 h hb => h.below hb), (fun v W W2 h hb => h.below hb), (fun v W W2 h hb => h.below hb), trivial⟩
       ·refine ⟨?_, ?_, ?_, ?_, ?_, ?_, trivial⟩
        ·refine relOb_mk (o := ⟨some 45, _, _, _, _, _⟩) rfl (fun r V hc hf hg hs hb hd => ?_)
         have x12 : r (.tmp 12) = .pointer (some ⟨gr, 0, none⟩) := hs 12 (by kernel_rfl)
         clear hs hd hg
         have l0 := blk_cell (blk_keep hb HR6.out) 0 _ rfl
         have l1 := blk_cell (blk_keep hb HR6.out) 1 _ rfl
         have l2 := blk_cell (blk_keep hb HR6.out) 2 _ rfl
         have l3 := blk_cell (blk_keep hb HR6.out) 3 _ rfl
         have l4 := blk_cell (blk_keep hb HR6.out) 4 _ rfl
         have l5 := blk_cell (blk_keep hb HR6.out) 5 _ rfl
         go_simp
         exact ⟨Below.refl _ _, rfl⟩
        ·refine relOb_mk (o := ⟨some 46, _, _, _, _, _⟩) rfl (fun r V hc hf hg hs hb hd => ?_)
         have h0 : r (.tmp 45) = .agg #[.string x.nm, .int .i64 x.sg, .slice x.pa.a p1 x.pa.c, .slice x.po.a p2 x.po.c, .slice x.ov.a p3 x.ov.c, .slice x.fl.a p4 x.fl.c] := hd 0 45 rfl (by kernel_rfl)
         clear hs hd hg
         go_simp
         refine (KTR.out V hb).mono ?_
         rintro e w' ⟨v, rfl, h2, h3⟩
         exact ⟨_, rfl, h3, h2⟩
        ·refine relOb_mk (o := ⟨some 47, _, _, _, _, _⟩) rfl (fun r V hc hf hg hs hb hd => ?_)
         have x12 : r (.tmp 12) = .pointer (some ⟨gr, 0, none⟩) := hs 12 (by kernel_rfl)
         clear hs hd hg
         have l0 := blk_cell (blk_keep hb HR6.out) 0 _ rfl
         have l1 := blk_cell (blk_keep hb HR6.out) 1 _ rfl
         have l2 := blk_cell (blk_keep hb HR6.out) 2 _ rfl
         have l3 := blk_cell (blk_keep hb HR6.out) 3 _ rfl
         have l4 := blk_cell (blk_keep hb HR6.out) 4 _ rfl
         have l5 := blk_cell (blk_keep hb HR6.out) 5 _ rfl
         go_simp
         exact ⟨Below.refl _ _, rfl⟩
        ·refine relOb_mk (o := ⟨some 48, _, _, _, _, _⟩) rfl (fun r V hc hf hg hs hb hd => ?_)
         have h2 : r (.tmp 47) = .agg #[.string x.nm, .int .i64 x.sg, .slice x.pa.a p1 x.pa.c, .slice x.po.a p2 x.po.c, .slice x.ov.a p3 x.ov.c, .slice x.fl.a p4 x.fl.c] := hd 2 47 rfl (by kernel_rfl)
         clear hs hd hg
         go_simp
         refine (KND.out V hb).mono ?_
         rintro e w' ⟨v, rfl, h2, h3⟩
         exact ⟨_, rfl, h3, h2⟩
        ·refine relOb_mk (o := ⟨some 13, _, _, _, _, _⟩) rfl (fun r V hc hf hg hs hb hd => ?_)
         have h1 : (fun v V => RwA 1 intC V x.tr v) (r (.tmp 46)) V := hd 1 46 rfl (by kernel_rfl)
         clear hs hd hg
         go_simp
         exact ⟨Below.refl _ _, h1⟩
        ·refine relOb_mk (o := ⟨some 14, _, _, _, _, _⟩) rfl (fun r V hc hf hg hs hb hd => ?_)
         have h3 : (fun v V => RwA 2 ndC V x.nd v) (r (.tmp 48)) V := hd 3 48 rfl (by kernel_rfl)
         clear hs hd hg
         go_simp
         exact ⟨Below.refl _ _, h3⟩
       ·intro a V hb hx
        have h0 : a.eval (.tmp 45) = .agg #[.string x.nm, .int .i64 x.sg, .slice x.pa.a p1 x.pa.c, .slice x.po.a p2 x.po.c, .slice x.ov.a p3 x.ov.c, .slice x.fl.a p4 x.fl.c] := hx 0 45 rfl rfl
        have h1 : (fun v V => RwA 1 intC V x.tr v) (a.eval (.tmp 46)) V := hx 1 46 rfl rfl
        obtain ⟨v46, e46⟩ : ∃ v, a.eval (.tmp 46) = v := ⟨_, rfl⟩
        rw [e46] at h1
        have h2 : a.eval (.tmp 47) = .agg #[.string x.nm, .int .i64 x.sg, .slice x.pa.a p1 x.pa.c, .slice x.po.a p2 x.po.c, .slice x.ov.a p3 x.ov.c, .slice x.fl.a p4 x.fl.c] := hx 2 47 rfl rfl
        have h3 : (fun v V => RwA 2 ndC V x.nd v) (a.eval (.tmp 48)) V := hx 3 48 rfl rfl
        obtain ⟨v48, e48⟩ : ∃ v, a.eval (.tmp 48) = v := ⟨_, rfl⟩
        rw [e48] at h3
        have h4 : (fun v V => RwA 1 intC V x.tr v) (a.eval (.tmp 13)) V := hx 4 13 rfl rfl
        obtain ⟨v13, e13⟩ : ∃ v, a.eval (.tmp 13) = v := ⟨_, rfl⟩
        rw [e13] at h4
        have h5 : (fun v V => RwA 2 ndC V x.nd v) (a.eval (.tmp 14)) V := hx 5 14 rfl rfl
        obtain ⟨v14, e14⟩ : ∃ v, a.eval (.tmp 14) = v := ⟨_, rfl⟩
        rw [e14] at h5
        unfold fillAll
        simp only [List.foldl_cons, List.foldl_nil, h0, e46, h2, e48, e13, e14, Act.put, List.setIfInBounds_toArray, List.set_cons_zero, List.set_cons_succ]
        clear h0 e46 h2 e48 e13 e14 hx
        unfold RwA at h1 h3 h4 h5
        obtain ⟨ua, un, uc, k1, hun, hU⟩ := h4
        obtain ⟨ta, tn, tc, k2, htn, hT⟩ := h5
        subst k1
        subst k2
        obtain ⟨_, _, _, k3, _, _⟩ := h1
        obtain ⟨_, _, _, k4, _, _⟩ := h3
        subst k3
        subst k4
        have HBv := Lib.hid (below_on HB9.out hb)
        have HBv1 := Lib.hid hb
        have HT := Lib.hid hT.row
        have HTN := Lib.hid htn
        have HU := Lib.hid hU.row
        have HUN := Lib.hid hun
        have HTM : Hid (tn ≤ 100000) := Lib.hid (by rw [htn]; exact HNL.out)
        have HUM : Hid (un ≤ 100000) := Lib.hid (by rw [hun]; exact HTL.out)
        clear hun hU htn hT hb
        refine wpAny_done (by kernel_rfl) ?_ _
        go_upto_region 11 with fail
        go_loopg [15] tn (fun g v wq => ∃ k : Nat, k + g = tn ∧ v = .int .i64 (k : Int) ∧ Below V.heap.size V wq)
        case atStart => exact ⟨0, by omega, rfl, Below.refl _ _⟩
        case round =>
         obtain ⟨k, hk, rfl, hbw⟩ := hrel
         have HK := Lib.hid hk
         have HBQ := Lib.hid hbw
         have HOQ := Lib.hid (blk_keep (below_on HBv1.out hbw) HO9.out)
         have HBW9q := Lib.hid (below_on HBv1.out hbw)
         clear hk hbw
         by_cases hlk : k < tn
         ·skip
          have d3 : (0 : Int) ≤ k := by omega
          have d4 : (k : Int) < tn := by omega
          have e2 := k_succ hlk (Nat.le_trans HTM.out (by decide))
          have HLK := Lib.hid hlk
          obtain ⟨⟨sj, B⟩, hs⟩ : ∃ s, x.nd[k]? = some s := ⟨_, List.getElem?_eq_getElem (by have := HTN.out; omega)⟩
          have hsb := HNB.out _ (List.mem_of_getElem? hs)
          dsimp only at hsb
          obtain ⟨j, rfl⟩ : ∃ j : Nat, sj = j := ⟨sj.toNat, by omega⟩
          have HJ31 : Hid (j ≤ 31) := Lib.hid (by omega)
          obtain ⟨A, hA⟩ : ∃ x, ta = x := ⟨_, rfl⟩
          have HAA := Lib.hid hA
          have hrow := HT.out
          rw [hA] at hrow ⊢
          rcases hrow with hnil | ⟨tb, toff, htb, ht0⟩
          ·have := HTN.out; rw [hnil] at this; simp at this; omega
          subst htb
          have t0 := cell_later HBQ.out (ht0 k _ hs 0 (.int .i64 (j : Int)) rfl)
          have t1 := cell_later HBQ.out (ht0 k _ hs 1 (.bool B) rfl)
          rw [Nat.add_zero] at t0
          have HSK := Lib.hid hs
          clear ht0 hs hsb hlk hA
          have HT0 := Lib.hid t0
          have HT1 := Lib.hid t1
          clear t0 t1
          cases B with
          | false =>
            have HPB : Hid (hasBit s.pt j = false) := Lib.hid (HFN.out ((j : Int), false) (List.mem_of_getElem? HSK.out))
            have hq1 : (bits .and .u32 ((s.pt : Int) / 2 ^ j) 1 == 1) = false := by rw [has_eq32 _ _ HSO.out.pt]; exact HPB.out
            have hj1 : min j 32 = j := by have := HJ31.out; omega
            have hj2 : ¬ (32 : Int) ≤ (j : Int) := by have := HJ31.out; omega
            have hj3 : (0 : Int) ≤ (j : Int) := by omega
            clear HBW9q
            go_upto_region 13 with fail
            refine wp_region_calm (by kernel_rfl) ?_ ?_
            ·kernel_rfl
            repeat first
             | go_big_quiet_skip
             | (go_big_quiet_want; go_big_quiet_op; go_big_quiet_on)
             | (with_reducible apply wpQuiet_step
                intro K hK
                go_simp
                first
                 | (refine hK _ ?_; clear hK K)
                 | (apply Exists.intro
                    refine ⟨fun w' hw' => ?_, hK _ ?_⟩
                    ·
                     (first
                      | (have o1 := blk_cell (blk_keep hw' HOQ.out) 1 _ rfl
                         go_simp
                         first | done | with_reducible exact rfl | with_reducible exact ⟨rfl, rfl⟩)
                      | (have t0 := cell_later hw' HT0.out
                         go_simp
                         first | done | with_reducible exact rfl | with_reducible exact ⟨rfl, rfl⟩)
                      | (have t1 := cell_later hw' HT1.out
                         go_simp
                         first | done | with_reducible exact rfl | with_reducible exact ⟨rfl, rfl⟩))
                    clear hK K))
            refine wpQuiet_nil ?_
            intro w7 hw7
            have HB7 := Lib.hid (below_on HBQ.out hw7)
            have HBW7 := Lib.hid hw7
            clear hw7
            clear hq1
            have t0 := cell_later HBW7.out HT0.out
            have t1 := cell_later HBW7.out HT1.out
            have o0 := blk_cell (blk_keep HBW7.out HOQ.out) 0 _ rfl
            clear HBW7
            go_wp2_with fail
            refine (KHO.out _).mono ?_
            rintro e wz ⟨rfl, hbz⟩
            have HBZ := Lib.hid (below_on HB7.out hbz)
            have t0' := cell_later hbz t0
            have hq0 : (bits .and .u32 (((sideN no re : Nat) : Int) / 2 ^ j) 1 == 0) = false := has_zero32 _ _ (side_lt HBD.out.2.1) (HFS.out ((j : Int), false) (List.mem_of_getElem? HSK.out))
            clear t0 t1 o0 hbz
            go_wp2_with fail
            rw [← HAA.out]
            go_roundg (tn - (k + 1))
            case rel => exact ⟨k + 1, k_next HK.out HLK.out, by go_num, HBZ.out⟩
            case measure => exact k_less HK.out HLK.out
          | true =>
            have HPB : Hid (hasBit s.pt j = true) := Lib.hid (HFN.out ((j : Int), true) (List.mem_of_getElem? HSK.out))
            have hq1 : (bits .and .u32 ((s.pt : Int) / 2 ^ j) 1 == 1) = true := by rw [has_eq32 _ _ HSO.out.pt]; exact HPB.out
            have hj1 : min j 32 = j := by have := HJ31.out; omega
            have hj2 : ¬ (32 : Int) ≤ (j : Int) := by have := HJ31.out; omega
            have hj3 : (0 : Int) ≤ (j : Int) := by omega
            clear HBW9q
            go_upto_region 13 with fail
            refine wp_region_calm (by kernel_rfl) ?_ ?_
            ·kernel_rfl
            repeat first
             | go_big_quiet_skip
             | (go_big_quiet_want; go_big_quiet_op; go_big_quiet_on)
             | (with_reducible apply wpQuiet_step
                intro K hK
                go_simp
                first
                 | (refine hK _ ?_; clear hK K)
                 | (apply Exists.intro
                    refine ⟨fun w' hw' => ?_, hK _ ?_⟩
                    ·
                     (first
                      | (have o1 := blk_cell (blk_keep hw' HOQ.out) 1 _ rfl
                         go_simp
                         first | done | with_reducible exact rfl | with_reducible exact ⟨rfl, rfl⟩)
                      | (have t0 := cell_later hw' HT0.out
                         go_simp
                         first | done | with_reducible exact rfl | with_reducible exact ⟨rfl, rfl⟩)
                      | (have t1 := cell_later hw' HT1.out
                         go_simp
                         first | done | with_reducible exact rfl | with_reducible exact ⟨rfl, rfl⟩))
                    clear hK K))
            refine wpQuiet_nil ?_
            intro w7 hw7
            have HB7 := Lib.hid (below_on HBQ.out hw7)
            have HBW7 := Lib.hid hw7
            clear hw7
            clear hq1
            have t0 := cell_later HBW7.out HT0.out
            have t1 := cell_later HBW7.out HT1.out
            have o0 := blk_cell (blk_keep HBW7.out HOQ.out) 0 _ rfl
            clear HBW7
            go_wp2_with fail
            refine (KHO.out _).mono ?_
            rintro e wz ⟨rfl, hbz⟩
            have HBZ := Lib.hid (below_on HB7.out hbz)
            have t0' := cell_later hbz t0
            have hq0 : (bits .and .u32 (((sideN re no : Nat) : Int) / 2 ^ j) 1 == 0) = false := has_zero32 _ _ (side_lt HBD.out.2.2) (HFS.out ((j : Int), true) (List.mem_of_getElem? HSK.out))
            clear t0 t1 o0 hbz
            go_wp2_with fail
            rw [← HAA.out]
            go_roundg (tn - (k + 1))
            case rel => exact ⟨k + 1, k_next HK.out HLK.out, by go_num, HBZ.out⟩
            case measure => exact k_less HK.out HLK.out
         ·have d4 : ¬ ((k : Int) < tn) := by omega
          clear hlk
          go_upto_region 20 with fail
          obtain ⟨wc, hwc⟩ : ∃ W, W = wr := ⟨_, rfl⟩
          rw [← hwc] at HBQ HBW9q ⊢
          have HBc9 := HBW9q
          have HBvc := HBQ
          have HBc : Hid (Below w1.heap.size w1 wc) := Lib.hid (below_on HBv.out HBQ.out)
          clear hwc d4
          go_upto_region 21 with fail
          go_loopg [17] un (fun g v wq => ∃ k : Nat, k + g = un ∧ v = .int .i64 (k : Int) ∧ Below wc.heap.size wc wq)
          case atStart => exact ⟨0, by omega, rfl, Below.refl _ _⟩
          case round =>
           obtain ⟨k, hk, rfl, hbw⟩ := hrel
           have HK := Lib.hid hk
           have HBQ0 := Lib.hid hbw
           have HLQ := Lib.hid (blk_keep (below_on HBc9.out hbw) HL9.out)
           have HSQ := Lib.hid (blk_keep (below_on HBc9.out hbw) HS9.out)
           have HIQ0 := Lib.hid (blk_keep (below_on HBc9.out hbw) HI9.out)
           have o0 := blk_cell (blk_keep (below_on HBc9.out hbw) HO9.out) 0 _ rfl
           clear hk hbw
           by_cases hlk : k < un
           ·have d4' : (k : Int) < (un : Int) := by omega
            go_wp2_with fail
            refine (KHO.out _).mono ?_
            rintro e wz ⟨rfl, hbz⟩
            have HBQ1 := Lib.hid (below_on HBQ0.out hbz)
            have HBQv : Hid (Below V.heap.size V wz) := Lib.hid (below_on HBvc.out HBQ1.out)
            have HIQ := Lib.hid (blk_keep hbz HIQ0.out)
            clear hbz o0 d4'
            have d3 : (0 : Int) ≤ k := by omega
            have d4 : (k : Int) < un := by omega
            have e2 := k_succ hlk (Nat.le_trans HUM.out (by decide))
            have HLK := Lib.hid hlk
            obtain ⟨sj, hs⟩ : ∃ s, x.tr[k]? = some s := ⟨_, List.getElem?_eq_getElem (by have := HUN.out; omega)⟩
            have hsb := HTB63.out _ (List.mem_of_getElem? hs)
            obtain ⟨j, rfl⟩ : ∃ j : Nat, sj = j := ⟨sj.toNat, by omega⟩
            have HJ63 : Hid (j ≤ 63) := Lib.hid (by omega)
            have HOC0 : Hid (hasBit oc j = false) := Lib.hid (by have h := HFT.out _ (List.mem_of_getElem? hs); rw [Int.toNat_natCast] at h; exact h)
            obtain ⟨A, hA⟩ : ∃ x, ua = x := ⟨_, rfl⟩
            have HAA := Lib.hid hA
            have hrow := HU.out
            rw [hA] at hrow ⊢
            rcases hrow with hnil | ⟨tb, toff, htb, ht0⟩
            ·have := HUN.out; rw [hnil] at this; simp at this; omega
            subst htb
            have HU0 := Lib.hid (cell_later HBQv.out (ht0 k _ hs 0 (.int .i64 (j : Int)) rfl))
            have HU0' := HU0.out
            rw [Nat.mul_one, Nat.add_zero] at HU0'
            have HU0 := Lib.hid HU0'
            clear ht0 hs hsb hlk hA HU0'
            have KHT : Hid (∀ V, Calls Try.prog 22 #[.int .u64 (oc : Int), .int .i64 (j : Int)] V fun e w' => e = .returned (.bool false) ∧ Below V.heap.size V w') := Lib.hid (fun V => dhas_is false oc j V HJ63.out HBD.out.1 HOC0.out)
            have KHTW : Hid (∀ w', Below wz.heap.size wz w' → Calls Try.prog 22 #[.int .u64 (oc : Int), .int .i64 (j : Int)] w' fun e w'' => e = .returned (.bool false) ∧ Below wz.heap.size wz w'') := Lib.hid (fun w' hw' => (KHT.out w').mono (fun _ _ h => ⟨h.1, below_on hw' h.2⟩))
            go_upto_region 23 with fail
            refine wp_region_calm (by kernel_rfl) ?_ ?_
            ·kernel_rfl
            repeat first
             | go_big_quiet_skip
             | (go_big_quiet_want; go_big_quiet_op; go_big_quiet_on)
             | (with_reducible apply wpQuiet_step
                intro K hK
                go_simp
                first
                 | (refine hK _ ?_; clear hK K)
                 | (apply Exists.intro
                    refine ⟨fun w' hw' => ?_, hK _ ?_⟩
                    ·
                     (first
                      | with_reducible exact KHTW.out _ hw'
                      | (have i0 := blk_cell (blk_keep hw' HIQ.out) 0 _ rfl
                         go_simp
                         first | done | with_reducible exact rfl | with_reducible exact ⟨rfl, rfl⟩ | with_reducible exact KHTW.out _ hw')
                      | (have u0 := cell_later hw' HU0.out
                         go_simp
                         first | done | with_reducible exact rfl | with_reducible exact ⟨rfl, rfl⟩ | with_reducible exact KHTW.out _ hw'))
                    clear hK K))
            refine wpQuiet_nil ?_
            intro w7 hw7
            have HB7 := Lib.hid (below_on HBQ1.out hw7)
            clear hw7
            go_wp2_with fail
            rw [← HAA.out]
            go_roundg (un - (k + 1))
            case rel => exact ⟨k + 1, k_next HK.out HLK.out, by go_num, HB7.out⟩
            case measure => exact k_less HK.out HLK.out
           ·have d4 : ¬ ((k : Int) < (un : Int)) := by omega
            clear hlk o0
            obtain ⟨wb, hwb⟩ : ∃ W, W = wr := ⟨_, rfl⟩
            have HBb : Hid (Below w1.heap.size w1 wb) := Lib.hid (by rw [hwb]; exact below_on HBc.out HBQ0.out)
            have HBWb := Lib.hid (below_on HB1.out HBb.out)
            have HSb : Hid (wb.heap[gs]? = some (.cells (stL s).toArray 32)) := Lib.hid (by rw [hwb]; exact HSQ.out)
            have HLb : Hid (wb.heap[gl]? = some (.cells #[.slice L.se.a n1 L.se.c, .slice L.po.a n2 L.po.c, .slice L.sg.a n3 L.sg.c, .slice (some ⟨xb, off, none⟩) n4 L.rt.c] 27)) := Lib.hid (by rw [hwb]; exact HLQ.out)
            rw [← hwb]
            clear hwb
            go_upto_region 26 with fail
            go_loopg [18] i (fun g v wq => ∃ k : Nat, k + g = i ∧ v = .int .i64 (k : Int) ∧ Below wb.heap.size wb wq)
            case atStart => exact ⟨0, by omega, rfl, Below.refl _ _⟩
            case round =>
             obtain ⟨k, hk, rfl, hbw⟩ := hrel
             have HK := Lib.hid hk
             have HBQ := Lib.hid hbw
             have HSQ2 := Lib.hid (blk_keep hbw HSb.out)
             have HLQ2 := Lib.hid (blk_keep hbw HLb.out)
             clear hk hbw
             by_cases hlk : k < i
             ·have d4 : (k : Int) < (i : Int) := by omega
              have e2 := k_succ hlk (Nat.le_trans (Nat.le_of_lt HLT.out) (Nat.le_trans HS4.out (by decide)))
              have HLK := Lib.hid hlk
              have s0 := blk_cell HSQ2.out 0 _ (st_0 s)
              obtain ⟨bk, hbk⟩ : ∃ b, hasBit s.lk k = b := ⟨_, rfl⟩
              have HBK := Lib.hid hbk
              have KHK : Hid (∀ V, Calls Try.prog 22 #[.int .u64 (s.lk : Int), .int .i64 (k : Int)] V fun e w' => e = .returned (.bool bk) ∧ Below V.heap.size V w') := Lib.hid (fun V => dhas_is bk s.lk k V (by have := HLK.out; have := HLT.out; have := HS4.out; omega) HSO.out.lk hbk)
              clear hbk hlk
              go_wp2_with fail
              refine (KHK.out _).mono ?_
              rintro e wz ⟨rfl, hbz⟩
              have HBZ := Lib.hid (below_on HBQ.out hbz)
              have HLQ3 := Lib.hid (blk_keep hbz HLQ2.out)
              clear s0 hbz
              cases bk with
              | false =>
                go_wp2_with fail
                go_roundg (i - (k + 1))
                case rel => exact ⟨k + 1, k_next HK.out HLK.out, by go_num, HBZ.out⟩
                case measure => exact k_less HK.out HLK.out
              | true =>
                have KP := Lib.hid (fun V hV => KPR.out i k (HFP.out k HLK.out HBK.out) V (below_on HBWb.out (below_on HBZ.out hV)))
                have l0 := blk_cell HLQ3.out 0 _ rfl
                have l1 := blk_cell HLQ3.out 1 _ rfl
                have l2 := blk_cell HLQ3.out 2 _ rfl
                have l3 := blk_cell HLQ3.out 3 _ rfl
                go_wp2_with fail
                refine (KP.out _ (Below.refl _ _)).mono ?_
                rintro e wy ⟨rfl, hby⟩
                have HBY := Lib.hid (below_on HBZ.out hby)
                clear hby l0 l1 l2 l3
                go_wp2_with fail
                go_roundg (i - (k + 1))
                case rel => exact ⟨k + 1, k_next HK.out HLK.out, by go_num, HBY.out⟩
                case measure => exact k_less HK.out HLK.out
             ·have d4 : ¬ ((k : Int) < (i : Int)) := by omega
              clear hlk
              go_wp2_with fail
              rw [← HXX.out]
              go_roundg (n4 - (i + 1))
              case rel => exact ⟨i + 1, k_next HI.out HLT.out, by go_num, below_on HBb.out HBQ.out⟩
              case measure => exact k_less HI.out HLT.out
  ·have d2 : ¬ ((i : Int) < n4) := by omega
   clear hlt
   go_upto_region 30 with fail
   clear d2 l3
   have hlw := HLOW.out
   have KFIW : Hid (∀ w', Below wr.heap.size wr w' → Calls Try.prog 43 #[.int .i64 (n4 : Int)] w' fun e w'' => e = .returned (.int .u64 ((pw n4 - 1 : Nat) : Int)) ∧ Below wr.heap.size wr w'') := Lib.hid (fun w' hw' => (KFI.out w').mono (fun _ _ h => ⟨h.1, below_on hw' h.2⟩))
   refine wp_region_calm (by kernel_rfl) ?_ ?_
   ·kernel_rfl
   repeat first
    | go_big_quiet_skip
    | (go_big_quiet_want; go_big_quiet_op; go_big_quiet_on)
    | (with_reducible apply wpQuiet_step
       intro K hK
       go_simp
       first
        | (refine hK _ ?_; clear hK K)
        | (apply Exists.intro
           refine ⟨fun w' hw' => ?_, hK _ ?_⟩
           ·
            (first
             | with_reducible exact KFIW.out _ hw'
             | (have o0 := blk_cell (blk_keep hw' HOI.out) 0 _ rfl
                go_simp
                first | done | with_reducible exact rfl | with_reducible exact ⟨rfl, rfl⟩ | with_reducible exact KFIW.out _ hw')
             | (have l3 := blk_cell (blk_keep hw' HLI.out) 3 _ rfl
                go_simp
                first | done | with_reducible exact rfl | with_reducible exact ⟨rfl, rfl⟩ | with_reducible exact KFIW.out _ hw'))
           clear hK K))
   refine wpQuiet_nil ?_
   intro w7 hw7
   have HB7 := Lib.hid (below_on HB.out hw7)
   clear hw7
   go_wp2_with fail
   go_ret
   exact ⟨rfl, below_on HB1.out HB7.out⟩
end Go.Proofs.Ytjienmjpfklgeaa
