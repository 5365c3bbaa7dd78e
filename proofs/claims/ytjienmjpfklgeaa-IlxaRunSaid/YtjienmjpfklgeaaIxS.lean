/-
 Layer 10: the document's small functions.
-/
import Derived.Test.YtjienmjpfklgeaaIxK
import Derived.Test.YtjienmjpfklgeaaIxM
import Derived.Test.YtjienmjpfklgeaaMA
import Derived.Test.YtjienmjpfklgeaaRef07
import Derived.Test.YtjienmjpfklgeaaCoC
namespace Go.Proofs.Ytjienmjpfklgeaa
open Go.RowKit
set_option maxRecDepth 100000
theorem tk_no {α : Type} {f : α → Bool} {l : List α} {k : Nat} {x : α} (hx : l[k]? = some x) (h : (l.take k).any f = false) (h2 : f x = false) : (l.take (k + 1)).any f = false := by
 rw [List.take_add_one, hx, List.any_append, h]
 simp [h2]
theorem tk_yes {α : Type} {f : α → Bool} {l : List α} {k : Nat} {x : α} (hx : l[k]? = some x) (h2 : f x = true) : l.any f = true := List.any_eq_true.2 ⟨x, List.mem_of_getElem? hx, h2⟩
theorem tk_all {α : Type} {f : α → Bool} {l : List α} {k : Nat} (h : (l.take k).any f = false) (hk : l.length ≤ k) : l.any f = false := by rw [List.take_of_length_le hk] at h; exact h
theorem tk_zero {α : Type} {f : α → Bool} {l : List α} : (l.take 0).any f = false := by rw [List.take_zero]; rfl
theorem has_eq32 (s n : Nat) (hs : s < 4294967296) : (bits .and .u32 ((s : Int) / 2 ^ n) 1 == 1) = hasBit s n := by
 have h1 : s / pw n < 4294967296 := Nat.lt_of_le_of_lt (Nat.div_le_self _ _) hs
 rw [shr_pw, show (1 : Int) = ((1 : Nat) : Int) from rfl, u32_and_nat _ 1 h1 (by omega), Nat.and_one_is_mod]
 unfold hasBit
 rw [Bool.eq_iff_iff]; simp; omega
theorem wpList_load_if {P : Program} {ops : Array Oper} {rest : List Oper} {op : Oper} {a : Act} {w : World} {Q : Exit → Act → World → Prop} (hw : Region.wanted op (yielded ops a.tmps) = true) (ty : TypeId) (x : Operand) (ho : op.op = .load ty x) (vx v : Value) (hx : a.eval x = vx)
 (hr : (Instr.loadAt ty vx).run P w = .ok v w) (h : wpList P ops Q rest (a.put op.dst v) w) : wpList P ops Q (op :: rest) a w :=
 wpList_step fun K hK => by
  rw [if_pos hw]
  unfold Oper.wp execOp
  simp only [ho, hx, Sem.run_bind, hr, Result.andThen_ok, Sem.run_pure]
  exact hK _ _ h
theorem wpList_build_if {P : Program} {ops : Array Oper} {rest : List Oper} {op : Oper} {a : Act} {w : World} {Q : Exit → Act → World → Prop} (hw : Region.wanted op (yielded ops a.tmps) = true) (ty : TypeId) (ho : op.op = .build ty #[]) (cells : Array Value)
 (hr : P.built ty [] = some cells) (h : wpList P ops Q rest (a.put op.dst (.agg cells)) w) : wpList P ops Q (op :: rest) a w :=
 wpList_step fun K hK => by
  rw [if_pos hw]
  unfold Oper.wp execOp
  have hb : (Instr.build ty #[]).run P w = .ok (.agg cells) w := run_build w ty #[] cells hr
  simp only [ho, List.map_toArray, List.map_nil, Sem.run_bind, hb, Result.andThen_ok, Sem.run_pure]
  exact hK _ _ h
theorem cmd_at {V : World} {g kd : Nat} {nn : Int} {t : TypeId} {fr : Nat × Nat} (h : V.heap[g]? = some (.cells #[.int .u8 (kd : Int), .int .i64 nn] t fr)) (hk : kd < 256) (h1 : -9223372036854775808 ≤ nn) (h2 : nn ≤ 9223372036854775807) : CmdsAt V (some ⟨g, 0, none⟩) [(kd, nn)] := by
 refine ⟨fun c hc => ?_, .inr ⟨g, 0, rfl, fun i c hi => ?_⟩⟩
 ·rw [List.mem_singleton.1 hc]; exact ⟨hk, h1, h2⟩
 ·cases i with
  | zero => injection hi with hi; subst hi; exact ⟨blk_cell h 0 _ rfl, blk_cell h 1 _ rfl⟩
  | succ i => cases hi
theorem dhas_is (b : Bool) (x n : Nat) (w : World) (hn : n ≤ 63) (hx : x < 18446744073709551616) (hb : hasBit x n = b) :
 Calls Try.prog 22 #[.int .u64 (x : Int), .int .i64 (n : Int)] w fun e w' => e = .returned (.bool b) ∧ Below w.heap.size w w' :=
 hb ▸ (has_any x n w hn hx).mono (fun _ _ h => ⟨h.1, h.2 ▸ Below.refl _ _⟩)
theorem free_not (oc : Nat) (x : Rw) : freeS oc x = !x.tr.any (fun k => hasBit oc k.toNat) := rfl
attribute [local irreducible] Sl.v hasBit pw withBit woBit cyL stL stV tmL freeS ndBad maySet ptL setS mayCan canS canD nedS flipB mayMov movS comG relS rouS proS tidyS comsG rousS prosS nextG outS lnOk rightK rgtS eqS Mc.tb upd mayS checkS sideN
attribute [local irreducible] tbL rwL secOf cofL Rt.tr Rt.nd conflictS pairS formedS

set_option maxHeartbeats 4000000 in
theorem dclear_is (b : Bool) (oc no re : Nat) (ia : Option Addr) (il ic : Nat) (k : Nat) (w : World) (hk : k ≤ 63) (ho : oc < 18446744073709551616) (hb : hasBit oc k = b) :
 Calls Try.prog 60 #[.agg #[.int .u64 (oc : Int), .int .u32 (no : Int), .int .u32 (re : Int), .slice ia il ic], .int .i64 (k : Int)] w fun e w' => e = .returned (.bool (!b)) ∧ Below w.heap.size w w' := by
 have HH : Hid (∀ V, Calls Try.prog 22 #[.int .u64 (oc : Int), .int .i64 (k : Int)] V fun e w' => e = .returned (.bool b) ∧ Below V.heap.size V w') := Lib.hid (fun V => dhas_is b oc k V hk ho hb)
 clear hk ho hb
 go_enter Try.func60, Try.ntmps60
 go_upto_region 1 with fail
 refine name_last (os := [.cells #[.int .u64 (oc : Int), .int .u32 (no : Int), .int .u32 (re : Int), .slice ia il ic] 35]) (w0 := w) rfl ?_
 intro W hat hbw
 obtain ⟨gi, hgi⟩ : ∃ g, g = w.heap.size := ⟨_, rfl⟩
 have q0 := hat 0 _ rfl
 rw [Nat.add_zero, ← hgi] at q0
 rw [← hgi]
 have HQi := Lib.hid q0
 have HB0 := Lib.hid hbw
 clear hat hbw q0 hgi
 have l0 := blk_cell HQi.out 0 _ rfl
 have l1 := blk_cell HQi.out 1 _ rfl
 have l2 := blk_cell HQi.out 2 _ rfl
 have l3 := blk_cell HQi.out 3 _ rfl
 go_wp2_with fail
 refine (HH.out _).mono ?_
 rintro e w1 ⟨rfl, hb1⟩
 go_wp2_with fail
 go_ret
 exact ⟨by cases b <;> rfl, below_on HB0.out hb1⟩

set_option maxHeartbeats 8000000 in
theorem dfree_is (b : Bool) (oc no re : Nat) (ia : Option Addr) (il ic : Nat) (x : Rt) (w : World) (hx : RtAt w x) (h1 : x.pa.l.length + x.ov.l.length ≤ 100000) (hs : ∀ s ∈ x.tr, 0 ≤ s ∧ s ≤ 63) (ho : oc < 18446744073709551616) (hb : x.tr.any (fun k => hasBit oc k.toNat) = b) :
 Calls Try.prog 62 #[.agg #[.string x.nm, .int .i64 x.sg, x.pa.v, x.po.v, x.ov.v, x.fl.v], .agg #[.int .u64 (oc : Int), .int .u32 (no : Int), .int .u32 (re : Int), .slice ia il ic]] w fun e w' => e = .returned (.bool (!b)) ∧ Below w.heap.size w w' := by
 have HTR : Hid (∀ W, Below w.heap.size w W → Calls Try.prog 48 #[.agg #[.string x.nm, .int .i64 x.sg, x.pa.v, x.po.v, x.ov.v, x.fl.v]] W fun e w' => ∃ a n c, e = .returned (.slice a n c) ∧ n = x.tr.length ∧ SlAt 1 intC w' ⟨a, c, x.tr⟩ ∧ Below W.heap.size W w') := Lib.hid (fun W hW => by
  have h := rtrack_is x W (hx.below hW) h1
  unfold Rt.tr
  rw [List.length_append]
  exact h)
 obtain ⟨p1, hp1⟩ : ∃ k, x.pa.l.length = k := ⟨_, rfl⟩
 obtain ⟨p2, hp2⟩ : ∃ k, x.po.l.length = k := ⟨_, rfl⟩
 obtain ⟨p3, hp3⟩ : ∃ k, x.ov.l.length = k := ⟨_, rfl⟩
 obtain ⟨p4, hp4⟩ : ∃ k, x.fl.l.length = k := ⟨_, rfl⟩
 rw [slv hp1, slv hp2, slv hp3, slv hp4] at HTR ⊢
 have HTL : Hid (x.tr.length ≤ 100000) := Lib.hid (by unfold Rt.tr; rw [List.length_append]; exact h1)
 have HO := Lib.hid ho
 have HZ := Lib.hid hb
 have HSX := Lib.hid hs
 clear hx h1 hs ho hb hp1 hp2 hp3 hp4
 go_enter Try.func62, Try.ntmps62
 go_upto_region 1 with fail
 refine name_last (os := [.cells #[.string x.nm, .int .i64 x.sg, .slice x.pa.a p1 x.pa.c, .slice x.po.a p2 x.po.c, .slice x.ov.a p3 x.ov.c, .slice x.fl.a p4 x.fl.c] 44, .cells #[.int .u64 (oc : Int), .int .u32 (no : Int), .int .u32 (re : Int), .slice ia il ic] 35]) (w0 := w) rfl ?_
 intro W hat hbw
 obtain ⟨gr, hgr⟩ : ∃ g, g = w.heap.size := ⟨_, rfl⟩
 have q0 := hat 0 _ rfl
 obtain ⟨gi, hgi⟩ : ∃ g, g = gr + 1 := ⟨_, rfl⟩
 have q1 := hat 1 _ rfl
 rw [Nat.add_zero, ← hgr] at q0
 rw [← hgr, ← hgi] at q1
 rw [← hgr, ← hgi]
 have HQr := Lib.hid q0
 have HQi := Lib.hid q1
 have HB0 := Lib.hid hbw
 clear hat hbw q0 q1 hgr hgi
 have l0 := blk_cell HQr.out 0 _ rfl
 have l1 := blk_cell HQr.out 1 _ rfl
 have l2 := blk_cell HQr.out 2 _ rfl
 have l3 := blk_cell HQr.out 3 _ rfl
 have l4 := blk_cell HQr.out 4 _ rfl
 have l5 := blk_cell HQr.out 5 _ rfl
 go_wp2_with fail
 refine (HTR.out _ HB0.out).mono ?_
 rintro e w1 ⟨ta, tn, tc, rfl, htn, hT, hb1⟩
 have HT := Lib.hid hT.row
 have HTN := Lib.hid htn
 have HB1 := Lib.hid (below_on HB0.out hb1)
 have HQ1 := Lib.hid (blk_keep hb1 HQi.out)
 have htm : tn ≤ 100000 := by rw [htn]; exact HTL.out
 have HTM := Lib.hid htm
 clear l0 l1 l2 l3 l4 l5 htn hT hb1 htm
 go_upto_region 3 with fail
 go_loopg [6] tn (fun g v wq => ∃ k : Nat, k + g = tn ∧ v = .int .i64 (k : Int) ∧ (x.tr.take k).any (fun s => hasBit oc s.toNat) = false ∧ Below w1.heap.size w1 wq)
 case atStart => exact ⟨0, by omega, rfl, tk_zero, Below.refl _ _⟩
 case round =>
  obtain ⟨k, hk, rfl, ho, hbw⟩ := hrel
  have HK := Lib.hid hk
  have HF2 := Lib.hid ho
  have HBQ := Lib.hid hbw
  clear hk ho hbw
  by_cases hlk : k < tn
  ·have d3 : (0 : Int) ≤ k := by omega
   have d4 : (k : Int) < tn := by omega
   have e2 := k_succ hlk (Nat.le_trans HTM.out (by decide))
   have HLK := Lib.hid hlk
   obtain ⟨s, hs⟩ : ∃ s, x.tr[k]? = some s := ⟨_, List.getElem?_eq_getElem (by have := HTN.out; omega)⟩
   have hsb := HSX.out s (List.mem_of_getElem? hs)
   obtain ⟨j, rfl⟩ : ∃ j : Nat, s = j := ⟨s.toNat, by omega⟩
   obtain ⟨A, hA⟩ : ∃ x, ta = x := ⟨_, rfl⟩
   have HAA := Lib.hid hA
   have hrow := HT.out
   rw [hA] at hrow ⊢
   rcases hrow with hnil | ⟨tb, toff, htb, ht0⟩
   ·have := HTN.out; rw [hnil] at this; simp at this; omega
   subst htb
   have t0 := cell_later HBQ.out (ht0 k _ hs 0 _ rfl)
   rw [Nat.add_zero, Nat.mul_one] at t0
   have HT0 := Lib.hid t0
   obtain ⟨D, hD⟩ : ∃ D, hasBit oc j = D := ⟨_, rfl⟩
   have HD : Hid ((fun s : Int => hasBit oc s.toNat) (j : Int) = D) := Lib.hid (by show hasBit oc ((j : Int).toNat) = D; rw [Int.toNat_natCast]; exact hD)
   have HSK := Lib.hid hs
   have KHS : Hid (∀ w', Below wr.heap.size wr w' → Calls Try.prog 60 #[.agg #[.int .u64 (oc : Int), .int .u32 (no : Int), .int .u32 (re : Int), .slice ia il ic], .int .i64 (j : Int)] w' fun e w'' => e = .returned (.bool (!D)) ∧ Below wr.heap.size wr w'') := Lib.hid (fun w' hw' => (dclear_is D oc no re ia il ic j w' (by omega) HO.out hD).mono (fun _ _ h => ⟨h.1, below_on hw' h.2⟩))
   have HQR := Lib.hid (blk_keep HBQ.out HQ1.out)
   clear t0 ht0 hs hD hsb hlk hA
   go_upto_region 5 with fail
   refine wp_region_calm (by kernel_rfl) ?_ ?_
   ·kernel_rfl
   repeat first
    | go_big_quiet_skip
    | (go_big_quiet_want; go_big_quiet_op; go_big_quiet_on)
    | (with_reducible apply wpQuiet_step
       intro K hK
       go_simp
       first
        | (refine hK _ ?_; clear hK K)
        | (apply Exists.intro
           refine ⟨fun w' hw' => ?_, hK _ ?_⟩
           ·
            (first
             | with_reducible exact KHS.out _ hw'
             | (have g0 := blk_cell (blk_keep hw' HQR.out) 0 _ rfl
                have g1 := blk_cell (blk_keep hw' HQR.out) 1 _ rfl
                have g2 := blk_cell (blk_keep hw' HQR.out) 2 _ rfl
                have g3 := blk_cell (blk_keep hw' HQR.out) 3 _ rfl
                go_simp
                first | done | with_reducible exact rfl | with_reducible exact ⟨rfl, rfl⟩ | with_reducible exact KHS.out _ hw')
             | (have t0 := cell_later hw' HT0.out
                go_simp
                first | done | with_reducible exact rfl | with_reducible exact ⟨rfl, rfl⟩ | with_reducible exact KHS.out _ hw'))
           clear hK K))
   refine wpQuiet_nil ?_
   intro w7 hw7
   have HB7 := Lib.hid (below_on HBQ.out hw7)
   clear hw7
   cases D with
   | true =>
     have HTT : Hid (b = true) := Lib.hid (HZ.out.symm.trans (tk_yes HSK.out HD.out))
     go_wp2_with fail
     go_ret
     exact ⟨by rw [HTT.out]; rfl, below_on HB1.out HB7.out⟩
   | false =>
     have HN : Hid ((x.tr.take (k + 1)).any (fun s => hasBit oc s.toNat) = false) := Lib.hid (tk_no HSK.out HF2.out HD.out)
     go_wp2_with fail
     rw [← HAA.out]
     go_roundg (tn - (k + 1))
     case rel => exact ⟨k + 1, k_next HK.out HLK.out, by go_num, HN.out, HB7.out⟩
     case measure => exact k_less HK.out HLK.out
  ·have d4 : ¬ ((k : Int) < tn) := by omega
   have HTT : Hid (b = false) := Lib.hid (HZ.out.symm.trans (tk_all HF2.out (by have := HTN.out; have := HK.out; omega)))
   go_wp2_with fail
   go_ret
   exact ⟨by rw [HTT.out]; rfl, below_on HB1.out HBQ.out⟩

set_option maxHeartbeats 4000000 in
theorem drev_is (b : Bool) (s : St) (p : Nat) (w : World) (hp : p ≤ 31) (hs : s.ok) (hb : hasBit s.pt p = b) :
 Calls Try.prog 46 #[.agg (stL s).toArray, .int .i64 (p : Int)] w fun e w' => e = .returned (.bool b) ∧ Below w.heap.size w w' := by
 have f := (has_eq32 s.pt p hs.pt).trans hb
 have j0 : (0 : Int) ≤ p := by omega
 have j1 : min p 32 = p := by omega
 have j2 : ¬ (32 : Int) ≤ p := by omega
 clear hp hs hb
 go_enter Try.func46, Try.ntmps46
 go_upto_region 1 with fail
 refine name_last (os := [.cells (stL s).toArray 32]) (w0 := w) rfl ?_
 intro W hat hbw
 obtain ⟨gs, hgs⟩ : ∃ g, g = w.heap.size := ⟨_, rfl⟩
 have q0 := hat 0 _ rfl
 rw [Nat.add_zero, ← hgs] at q0
 rw [← hgs]
 have HQs := Lib.hid q0
 have HB0 := Lib.hid hbw
 clear hat hbw q0 hgs
 have l67 := blk_cell HQs.out 67 _ (by rw [List.getElem?_toArray]; exact st_pt s)
 go_wp2_with fail
 go_ret
 exact ⟨by first | rfl | (rw [f]) | (simp only [f]), HB0.out⟩

set_option maxHeartbeats 8000000 in
theorem drel_is (s : St) (n : Nat) (w : World) (hn : n ≤ 63) (hs : s.ok) :
 Calls Try.prog 63 #[.agg (stL s).toArray, .int .i64 (n : Int)] w fun e w' => e = .returned (.agg (stL (relS s n)).toArray) ∧ Below w.heap.size w w' := by
 have HN63 := Lib.hid hn
 have HN64 : Hid (n < 64) := Lib.hid (by omega)
 have HSO := Lib.hid hs
 clear hn hs
 go_enter Try.func63, Try.ntmps63
 go_upto_region 1 with fail
 rw [zero_st]
 refine name_last (os := [.cells (stL s).toArray 32, .cells (stL zS).toArray 32]) (w0 := w) rfl ?_
 intro W hat hbw
 obtain ⟨gs, hgs⟩ : ∃ g, g = w.heap.size := ⟨_, rfl⟩
 have q0 := hat 0 _ rfl
 obtain ⟨gr, hgr⟩ : ∃ g, g = gs + 1 := ⟨_, rfl⟩
 have q1 := hat 1 _ rfl
 rw [Nat.add_zero, ← hgs] at q0
 rw [← hgs, ← hgr] at q1
 rw [← hgs, ← hgr]
 have HQs := Lib.hid q0
 have HQr := Lib.hid q1
 have HB0 := Lib.hid hbw
 have HG : Hid (w.heap.size ≤ gs ∧ gr ≠ gs) := Lib.hid (by omega)
 have HGR : Hid (w.heap.size ≤ gr) := Lib.hid (by omega)
 have HRz := Lib.hid q1
 clear hat hbw q0 q1 hgs hgr
 refine wp_region_rel (by kernel_rfl) [6] 9 [0, 1, 2, 3, 4, 5] [5, 6, 7, 8, 9, 10] #[true, true, true, true, true, true, false] 1 [(fun v _ => v = .pointer (some ⟨gs, 0, none⟩)), (fun v _ => v = .int .u64 (s.lk : Int)), (fun v _ => v = .int .i64 (n : Int)), (fun v _ => v = .int .u64 (pw n : Int)), (fun v _ => v = .int .u64 ((woBit s.lk n : Nat) : Int)), (fun v _ => v = .pointer (some ⟨gs, 0, none⟩)), (fun _ _ => True)] (by kernel_rfl) (by kernel_rfl) (by kernel_rfl) (by kernel_rfl) (by kernel_rfl) rfl (by kernel_rfl) rfl ?_ ?_ ?_
 ·exact ⟨stays_is _, stays_is _, stays_is _, stays_is _, stays_is _, stays_is _, stays_true, trivial⟩
 ·refine ⟨?_, ?_, ?_, ?_, ?_, ?_, trivial⟩
  ·refine relOb_mk (o := ⟨some 5, _, _, _, _, _⟩) rfl (fun r V hc hf hg hs hb hd => ?_)
   have x2 : r (.tmp 2) = .pointer (some ⟨gs, 0, none⟩) := hs 2 (by kernel_rfl)
   clear hs hd hg
   go_simp
   exact ⟨Below.refl _ _, rfl⟩
  ·refine relOb_mk (o := ⟨some 6, _, _, _, _, _⟩) rfl (fun r V hc hf hg hs hb hd => ?_)
   have h0 : r (.tmp 5) = .pointer (some ⟨gs, 0, none⟩) := hd 0 5 rfl (by kernel_rfl)
   clear hs hd hg
   have l := blk_cell (blk_keep hb HQs.out) 0 _ (st_0 _)
   go_simp
   exact ⟨Below.refl _ _, rfl⟩
  ·refine relOb_mk (o := ⟨some 7, _, _, _, _, _⟩) rfl (fun r V hc hf hg hs hb hd => ?_)
   have x1 : r (.tmp 1) = .int .i64 (n : Int) := hs 1 (by kernel_rfl)
   clear hs hd hg
   go_simp
   exact ⟨Below.refl _ _, rfl⟩
  ·refine relOb_mk (o := ⟨some 8, _, _, _, _, _⟩) rfl (fun r V hc hf hg hs hb hd => ?_)
   have h2 : r (.tmp 7) = .int .i64 (n : Int) := hd 2 7 rfl (by kernel_rfl)
   clear hs hd hg
   have h63 := HN63.out
   have h0 : (0 : Int) ≤ n := by omega
   have h1 : min n 64 = n := by omega
   have h2 : ¬ (64 : Int) ≤ n := by omega
   have hs1 := one_form n h63
   go_simp
   exact ⟨Below.refl _ _, by simp⟩
  ·refine relOb_mk (o := ⟨some 9, _, _, _, _, _⟩) rfl (fun r V hc hf hg hs hb hd => ?_)
   have h1 : r (.tmp 6) = .int .u64 (s.lk : Int) := hd 1 6 rfl (by kernel_rfl)
   have h3 : r (.tmp 8) = .int .u64 (pw n : Int) := hd 3 8 rfl (by kernel_rfl)
   clear hs hd hg
   have ho1 := wo_form s.lk n HN63.out HSO.out.lk
   go_simp
   exact ⟨Below.refl _ _, rfl⟩
  ·refine relOb_mk (o := ⟨some 10, _, _, _, _, _⟩) rfl (fun r V hc hf hg hs hb hd => ?_)
   have x2 : r (.tmp 2) = .pointer (some ⟨gs, 0, none⟩) := hs 2 (by kernel_rfl)
   clear hs hd hg
   go_simp
   exact ⟨Below.refl _ _, rfl⟩
 ·intro a V hb hx
  have h0 : a.eval (.tmp 5) = .pointer (some ⟨gs, 0, none⟩) := hx 0 5 rfl rfl
  have h1 : a.eval (.tmp 6) = .int .u64 (s.lk : Int) := hx 1 6 rfl rfl
  have h2 : a.eval (.tmp 7) = .int .i64 (n : Int) := hx 2 7 rfl rfl
  have h3 : a.eval (.tmp 8) = .int .u64 (pw n : Int) := hx 3 8 rfl rfl
  have h4 : a.eval (.tmp 9) = .int .u64 ((woBit s.lk n : Nat) : Int) := hx 4 9 rfl rfl
  have h5 : a.eval (.tmp 10) = .pointer (some ⟨gs, 0, none⟩) := hx 5 10 rfl rfl
  unfold fillAll
  simp only [List.foldl_cons, List.foldl_nil, h0, h1, h2, h3, h4, h5, Act.put, List.setIfInBounds_toArray, List.set_cons_zero, List.set_cons_succ]
  clear h0 h1 h2 h3 h4 h5 hx
  have HSV := Lib.hid (blk_keep hb HQs.out)
  have HBV := Lib.hid (below_on HB0.out hb)
  have HRV := Lib.hid (blk_keep hb HRz.out)
  clear hb HQs HB0 HRz
  refine wpAny_ready (rs := [6]) (by kernel_rfl) (by simp) (AllReady.cons (o := ⟨none, _, _, _, _, _⟩) rfl (fun K hK => ?_) AllReady.nil)
  have c0 := blk_cell HSV.out 0 _ (st_0 _)
  have f0 := blk_free HSV.out 0
  have hl := blk_lt HSV.out
  go_simp
  clear c0 f0 hl
  refine name_K ?_
  intro VZ hVZ
  have ho : Only gs V VZ := by rw [hVZ]; exact (Only.refl gs V).setCell rfl _
  have HSa : Hid (VZ.heap[gs]? = some (.cells (stL { s with lk := woBit s.lk n }).toArray 32)) := Lib.hid (by rw [hVZ]; exact (blk_set HSV.out 0 _).trans (congrArg (fun C => some (Obj.cells C 32)) (st_s0 _ _)))
  have HBa : Hid (Below w.heap.size w VZ) := Lib.hid (Only.below HBV.out HG.out.1 HBV.out.size ho)
  have HRa := Lib.hid (Only.keep ho HG.out.2 HRV.out)
  clear hVZ ho HSV HBV HRV
  refine hK _ _ ?_
  clear hK K
  refine wpAny_done (by kernel_rfl) ?_ _
  go_upto_region 2 with fail
  obtain ⟨W4, hW4⟩ : ∃ W', W' = VZ := ⟨_, rfl⟩
  rw [← hW4] at HSa HBa HRa ⊢
  clear hW4
  refine wp_region_rel (by kernel_rfl) [6] 9 [0, 1, 2, 3, 4, 5] [11, 12, 13, 14, 15, 16] #[true, true, true, true, true, true, false] 1 [(fun v _ => v = .pointer (some ⟨gs, 1, none⟩)), (fun v _ => v = .int .u64 (s.us : Int)), (fun v _ => v = .int .i64 (n : Int)), (fun v _ => v = .int .u64 (pw n : Int)), (fun v _ => v = .int .u64 ((woBit s.us n : Nat) : Int)), (fun v _ => v = .pointer (some ⟨gs, 1, none⟩)), (fun _ _ => True)] (by kernel_rfl) (by kernel_rfl) (by kernel_rfl) (by kernel_rfl) (by kernel_rfl) rfl (by kernel_rfl) rfl ?_ ?_ ?_
  ·exact ⟨stays_is _, stays_is _, stays_is _, stays_is _, stays_is _, stays_is _, stays_true, trivial⟩
  ·refine ⟨?_, ?_, ?_, ?_, ?_, ?_, trivial⟩
   ·refine relOb_mk (o := ⟨some 11, _, _, _, _, _⟩) rfl (fun r V hc hf hg hs hb hd => ?_)
    have x2 : r (.tmp 2) = .pointer (some ⟨gs, 0, none⟩) := hs 2 (by kernel_rfl)
    clear hs hd hg
    go_simp
    exact ⟨Below.refl _ _, rfl⟩
   ·refine relOb_mk (o := ⟨some 12, _, _, _, _, _⟩) rfl (fun r V hc hf hg hs hb hd => ?_)
    have h0 : r (.tmp 11) = .pointer (some ⟨gs, 1, none⟩) := hd 0 11 rfl (by kernel_rfl)
    clear hs hd hg
    have l := blk_cell (blk_keep hb HSa.out) 1 _ (st_1 _)
    go_simp
    exact ⟨Below.refl _ _, rfl⟩
   ·refine relOb_mk (o := ⟨some 13, _, _, _, _, _⟩) rfl (fun r V hc hf hg hs hb hd => ?_)
    have x1 : r (.tmp 1) = .int .i64 (n : Int) := hs 1 (by kernel_rfl)
    clear hs hd hg
    go_simp
    exact ⟨Below.refl _ _, rfl⟩
   ·refine relOb_mk (o := ⟨some 14, _, _, _, _, _⟩) rfl (fun r V hc hf hg hs hb hd => ?_)
    have h2 : r (.tmp 13) = .int .i64 (n : Int) := hd 2 13 rfl (by kernel_rfl)
    clear hs hd hg
    have h63 := HN63.out
    have h0 : (0 : Int) ≤ n := by omega
    have h1 : min n 64 = n := by omega
    have h2 : ¬ (64 : Int) ≤ n := by omega
    have hs1 := one_form n h63
    go_simp
    exact ⟨Below.refl _ _, by simp⟩
   ·refine relOb_mk (o := ⟨some 15, _, _, _, _, _⟩) rfl (fun r V hc hf hg hs hb hd => ?_)
    have h1 : r (.tmp 12) = .int .u64 (s.us : Int) := hd 1 12 rfl (by kernel_rfl)
    have h3 : r (.tmp 14) = .int .u64 (pw n : Int) := hd 3 14 rfl (by kernel_rfl)
    clear hs hd hg
    have ho1 := wo_form s.us n HN63.out HSO.out.us
    go_simp
    exact ⟨Below.refl _ _, rfl⟩
   ·refine relOb_mk (o := ⟨some 16, _, _, _, _, _⟩) rfl (fun r V hc hf hg hs hb hd => ?_)
    have x2 : r (.tmp 2) = .pointer (some ⟨gs, 0, none⟩) := hs 2 (by kernel_rfl)
    clear hs hd hg
    go_simp
    exact ⟨Below.refl _ _, rfl⟩
  ·intro a V hb hx
   have h0 : a.eval (.tmp 11) = .pointer (some ⟨gs, 1, none⟩) := hx 0 11 rfl rfl
   have h1 : a.eval (.tmp 12) = .int .u64 (s.us : Int) := hx 1 12 rfl rfl
   have h2 : a.eval (.tmp 13) = .int .i64 (n : Int) := hx 2 13 rfl rfl
   have h3 : a.eval (.tmp 14) = .int .u64 (pw n : Int) := hx 3 14 rfl rfl
   have h4 : a.eval (.tmp 15) = .int .u64 ((woBit s.us n : Nat) : Int) := hx 4 15 rfl rfl
   have h5 : a.eval (.tmp 16) = .pointer (some ⟨gs, 1, none⟩) := hx 5 16 rfl rfl
   unfold fillAll
   simp only [List.foldl_cons, List.foldl_nil, h0, h1, h2, h3, h4, h5, Act.put, List.setIfInBounds_toArray, List.set_cons_zero, List.set_cons_succ]
   clear h0 h1 h2 h3 h4 h5 hx
   have HSV := Lib.hid (blk_keep hb HSa.out)
   have HBV := Lib.hid (below_on HBa.out hb)
   have HRV := Lib.hid (blk_keep hb HRa.out)
   clear hb HSa HBa HRa
   refine wpAny_ready (rs := [6]) (by kernel_rfl) (by simp) (AllReady.cons (o := ⟨none, _, _, _, _, _⟩) rfl (fun K hK => ?_) AllReady.nil)
   have c0 := blk_cell HSV.out 1 _ (st_1 _)
   have f0 := blk_free HSV.out 1
   have hl := blk_lt HSV.out
   go_simp
   clear c0 f0 hl
   refine name_K ?_
   intro VZ hVZ
   have ho : Only gs V VZ := by rw [hVZ]; exact (Only.refl gs V).setCell rfl _
   have HSb : Hid (VZ.heap[gs]? = some (.cells (stL { s with lk := woBit s.lk n, us := woBit s.us n }).toArray 32)) := Lib.hid (by rw [hVZ]; exact (blk_set HSV.out 1 _).trans (congrArg (fun C => some (Obj.cells C 32)) (st_s1 _ _)))
   have HBb : Hid (Below w.heap.size w VZ) := Lib.hid (Only.below HBV.out HG.out.1 HBV.out.size ho)
   have HRb := Lib.hid (Only.keep ho HG.out.2 HRV.out)
   clear hVZ ho HSV HBV HRV
   refine hK _ _ ?_
   clear hK K
   refine wpAny_done (by kernel_rfl) ?_ _
   go_upto_region 3 with fail
   obtain ⟨W5, hW5⟩ : ∃ W', W' = VZ := ⟨_, rfl⟩
   rw [← hW5] at HSb HBb HRb ⊢
   clear hW5
   refine wp_region_rel (by kernel_rfl) [6] 9 [0, 1, 2, 3, 4, 5] [17, 18, 19, 20, 21, 22] #[true, true, true, true, true, true, false] 1 [(fun v _ => v = .pointer (some ⟨gs, 2, none⟩)), (fun v _ => v = .int .u64 (s.ca : Int)), (fun v _ => v = .int .i64 (n : Int)), (fun v _ => v = .int .u64 (pw n : Int)), (fun v _ => v = .int .u64 ((woBit s.ca n : Nat) : Int)), (fun v _ => v = .pointer (some ⟨gs, 2, none⟩)), (fun _ _ => True)] (by kernel_rfl) (by kernel_rfl) (by kernel_rfl) (by kernel_rfl) (by kernel_rfl) rfl (by kernel_rfl) rfl ?_ ?_ ?_
   ·exact ⟨stays_is _, stays_is _, stays_is _, stays_is _, stays_is _, stays_is _, stays_true, trivial⟩
   ·refine ⟨?_, ?_, ?_, ?_, ?_, ?_, trivial⟩
    ·refine relOb_mk (o := ⟨some 17, _, _, _, _, _⟩) rfl (fun r V hc hf hg hs hb hd => ?_)
     have x2 : r (.tmp 2) = .pointer (some ⟨gs, 0, none⟩) := hs 2 (by kernel_rfl)
     clear hs hd hg
     go_simp
     exact ⟨Below.refl _ _, rfl⟩
    ·refine relOb_mk (o := ⟨some 18, _, _, _, _, _⟩) rfl (fun r V hc hf hg hs hb hd => ?_)
     have h0 : r (.tmp 17) = .pointer (some ⟨gs, 2, none⟩) := hd 0 17 rfl (by kernel_rfl)
     clear hs hd hg
     have l := blk_cell (blk_keep hb HSb.out) 2 _ (st_2 _)
     go_simp
     exact ⟨Below.refl _ _, rfl⟩
    ·refine relOb_mk (o := ⟨some 19, _, _, _, _, _⟩) rfl (fun r V hc hf hg hs hb hd => ?_)
     have x1 : r (.tmp 1) = .int .i64 (n : Int) := hs 1 (by kernel_rfl)
     clear hs hd hg
     go_simp
     exact ⟨Below.refl _ _, rfl⟩
    ·refine relOb_mk (o := ⟨some 20, _, _, _, _, _⟩) rfl (fun r V hc hf hg hs hb hd => ?_)
     have h2 : r (.tmp 19) = .int .i64 (n : Int) := hd 2 19 rfl (by kernel_rfl)
     clear hs hd hg
     have h63 := HN63.out
     have h0 : (0 : Int) ≤ n := by omega
     have h1 : min n 64 = n := by omega
     have h2 : ¬ (64 : Int) ≤ n := by omega
     have hs1 := one_form n h63
     go_simp
     exact ⟨Below.refl _ _, by simp⟩
    ·refine relOb_mk (o := ⟨some 21, _, _, _, _, _⟩) rfl (fun r V hc hf hg hs hb hd => ?_)
     have h1 : r (.tmp 18) = .int .u64 (s.ca : Int) := hd 1 18 rfl (by kernel_rfl)
     have h3 : r (.tmp 20) = .int .u64 (pw n : Int) := hd 3 20 rfl (by kernel_rfl)
     clear hs hd hg
     have ho1 := wo_form s.ca n HN63.out HSO.out.ca
     go_simp
     exact ⟨Below.refl _ _, rfl⟩
    ·refine relOb_mk (o := ⟨some 22, _, _, _, _, _⟩) rfl (fun r V hc hf hg hs hb hd => ?_)
     have x2 : r (.tmp 2) = .pointer (some ⟨gs, 0, none⟩) := hs 2 (by kernel_rfl)
     clear hs hd hg
     go_simp
     exact ⟨Below.refl _ _, rfl⟩
   ·intro a V hb hx
    have h0 : a.eval (.tmp 17) = .pointer (some ⟨gs, 2, none⟩) := hx 0 17 rfl rfl
    have h1 : a.eval (.tmp 18) = .int .u64 (s.ca : Int) := hx 1 18 rfl rfl
    have h2 : a.eval (.tmp 19) = .int .i64 (n : Int) := hx 2 19 rfl rfl
    have h3 : a.eval (.tmp 20) = .int .u64 (pw n : Int) := hx 3 20 rfl rfl
    have h4 : a.eval (.tmp 21) = .int .u64 ((woBit s.ca n : Nat) : Int) := hx 4 21 rfl rfl
    have h5 : a.eval (.tmp 22) = .pointer (some ⟨gs, 2, none⟩) := hx 5 22 rfl rfl
    unfold fillAll
    simp only [List.foldl_cons, List.foldl_nil, h0, h1, h2, h3, h4, h5, Act.put, List.setIfInBounds_toArray, List.set_cons_zero, List.set_cons_succ]
    clear h0 h1 h2 h3 h4 h5 hx
    have HSV := Lib.hid (blk_keep hb HSb.out)
    have HBV := Lib.hid (below_on HBb.out hb)
    have HRV := Lib.hid (blk_keep hb HRb.out)
    clear hb HSb HBb HRb
    refine wpAny_ready (rs := [6]) (by kernel_rfl) (by simp) (AllReady.cons (o := ⟨none, _, _, _, _, _⟩) rfl (fun K hK => ?_) AllReady.nil)
    have c0 := blk_cell HSV.out 2 _ (st_2 _)
    have f0 := blk_free HSV.out 2
    have hl := blk_lt HSV.out
    go_simp
    clear c0 f0 hl
    refine name_K ?_
    intro VZ hVZ
    have ho : Only gs V VZ := by rw [hVZ]; exact (Only.refl gs V).setCell rfl _
    have HSc : Hid (VZ.heap[gs]? = some (.cells (stL { s with lk := woBit s.lk n, us := woBit s.us n, ca := woBit s.ca n }).toArray 32)) := Lib.hid (by rw [hVZ]; exact (blk_set HSV.out 2 _).trans (congrArg (fun C => some (Obj.cells C 32)) (st_s2 _ _)))
    have HBc : Hid (Below w.heap.size w VZ) := Lib.hid (Only.below HBV.out HG.out.1 HBV.out.size ho)
    have HRc := Lib.hid (Only.keep ho HG.out.2 HRV.out)
    clear hVZ ho HSV HBV HRV
    refine hK _ _ ?_
    clear hK K
    refine wpAny_done (by kernel_rfl) ?_ _
    obtain ⟨V3, hV3⟩ : ∃ W', W' = VZ := ⟨_, rfl⟩
    rw [← hV3] at HSc HBc HRc ⊢
    clear hV3
    have hs4 := HSc.out
    have l3 := blk_cell hs4 (3 + n) _ (st_tm9 _ HN64.out)
    have f3 := blk_free hs4 (3 + n)
    have hl := blk_lt hs4
    have d2 : (0 : Int) ≤ n := by omega
    have d3 : (n : Int) < 64 := by have := HN64.out; omega
    go_upto_region 5 with fail
    clear l3 f3 hl d2 d3
    refine name_any ?_
    intro WZ hWZ
    have ho : Only gs V3 WZ := by rw [hWZ]; exact (Only.refl gs V3).setCell rfl _
    have HS9 : Hid (WZ.heap[gs]? = some (.cells (stL (relS s n)).toArray 32)) := Lib.hid (by rw [hWZ]; exact (blk_set hs4 (3 + n) _).trans (congrArg (fun C => some (Obj.cells C 32)) ((st_stm _ 0 HN64.out).trans (by rw [rel_is]))))
    have HBE : Hid (Below w.heap.size w WZ) := Lib.hid (Only.below HBc.out HG.out.1 HBc.out.size ho)
    have HR9 := Lib.hid (Only.keep ho HG.out.2 HRc.out)
    clear hWZ ho hs4
    have HLD := Lib.hid (load_st HS9.out)
    obtain ⟨hst, hq9, ho9⟩ := store_st (s' := (relS s n)) HR9.out
    have HST := Lib.hid hst
    have HQ9 := Lib.hid hq9
    have HB9 : Hid (Below w.heap.size w (WZ.setCells gr 0 (stL (relS s n)))) := Lib.hid (Only.below HBE.out HGR.out HBE.out.size ho9)
    clear hst hq9 ho9
    go_wp2_with (first
     | ((with_reducible refine wpList_load_is (op := ⟨some 26, _, _, _, _, _⟩) rfl 32 _ rfl _ _ ?_ HLD.out ?_); (· rfl))
     | ((with_reducible refine wpList_store_is (op := ⟨none, .store 32 _ _, _, _, _, _⟩) rfl 32 _ _ rfl _ _ ?_ ?_ _ HST.out ?_); (· rfl); (· rfl)))
    (try simp only [Exit.inBlock, Exit.then])
    refine bodyPost_ret (results_cell_row (g := gr) rfl _ _ 32 (stL (relS s n)).toArray (0, 0) _ rfl HQ9.out Try.underlying32 rfl (by rw [List.size_toArray, st_len]; exact info_st)) rfl ?_
    exact ⟨rfl, HB9.out⟩
end Go.Proofs.Ytjienmjpfklgeaa
