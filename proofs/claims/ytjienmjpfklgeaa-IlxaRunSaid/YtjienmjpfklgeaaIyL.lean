/-
 Layer 10: rows of inputs; what is asked when a route is let go.
-/
import Derived.Test.YtjienmjpfklgeaaIxT
import Derived.Test.YtjienmjpfklgeaaIyR
import Derived.Test.YtjienmjpfklgeaaIyP
namespace Go.Proofs.Ytjienmjpfklgeaa
open Go.RowKit
set_option maxRecDepth 100000
structure Iq where
 oc : Nat
 no : Nat
 re : Nat
 a : Option Addr
 len : Nat
 cap : Nat
def iqC (x : Iq) : List Value := [.int .u64 (x.oc : Int), .int .u32 (x.no : Int), .int .u32 (x.re : Int), .slice x.a x.len x.cap]
def IqOk (w : World) (x : Iq) : Prop := (x.oc < 18446744073709551616 ∧ x.no < 4294967296 ∧ x.re < 4294967296) ∧ ∃ l : List (Nat × Int), l.length = x.len ∧ x.len ≤ x.cap ∧ CmdsAt w x.a l
theorem iq_el {w : World} {cs : List Value} (h : Rd Try.prog w 35 cs) : ∃ c : Iq, cs = iqC c ∧ IqOk w c := by
 obtain ⟨o, n, r, a, len, cap, l, hc, ho, hn, hr, hl, _, hcm, _, hlc, _⟩ := input_of (c := cs.toArray) h
 exact ⟨⟨o, n, r, a, len, cap⟩, congrArg Array.toList hc, ⟨ho, hn, hr⟩, l, hl, hlc, hcm⟩
theorem iqs_of {w : World} {cs : List Value} (h : Rd Try.prog w 65 cs) : ∃ s : Sl Iq, cs = [s.v] ∧ SlAt 4 iqC w s ∧ ∀ c ∈ s.l, IqOk w c := sl_of (f := iqC) (sz := 4) Try.underlying65 (by kernel_rfl) (by decide) (fun _ => rfl) (fun _ h => iq_el h) h
theorem has_zero64 (s n : Nat) (hs : s < 18446744073709551616) : (bits .and .u64 ((s : Int) / 2 ^ n) 1 == 0) = !hasBit s n := by
 have h := has_form s n hs
 rw [shr_pw, and_one s n hs] at h ⊢
 rw [← h]
 have : s / pw n % 2 = 0 ∨ s / pw n % 2 = 1 := by omega
 rcases this with h | h <;> rw [h] <;> rfl
attribute [local irreducible] Sl.v hasBit pw withBit woBit cyL stL stV tmL freeS ndBad maySet ptL setS mayCan canS canD nedS flipB mayMov movS comG relS rouS proS tidyS comsG rousS prosS nextG outS lnOk rightK rgtS eqS Mc.tb upd mayS checkS sideN
attribute [local irreducible] tbL rwL secOf cofL Rt.tr Rt.nd conflictS pairS formedS
attribute [local irreducible] mskS

set_option maxHeartbeats 8000000 in
theorem freed_yes (oc no re : Nat) (ia : Option Addr) (il ic : Nat) (x : Rt) (w : World) (hx : RtAt w x) (h1 : x.pa.l.length + x.ov.l.length ≤ 100000) (hs : ∀ s ∈ x.tr, 0 ≤ s ∧ s ≤ 63) (ho : oc < 18446744073709551616) (hf : ∀ k ∈ x.tr, hasBit oc k.toNat = false) :
 Calls Try.prog 23 #[.agg #[.string x.nm, .int .i64 x.sg, x.pa.v, x.po.v, x.ov.v, x.fl.v], .agg #[.int .u64 (oc : Int), .int .u32 (no : Int), .int .u32 (re : Int), .slice ia il ic]] w fun e w' => e = .returned (.bool true) ∧ Below w.heap.size w w' := by
 have HTR : Hid (∀ W, Below w.heap.size w W → Calls Try.prog 48 #[.agg #[.string x.nm, .int .i64 x.sg, x.pa.v, x.po.v, x.ov.v, x.fl.v]] W fun e w' => ∃ a n c, e = .returned (.slice a n c) ∧ n = x.tr.length ∧ SlAt 1 intC w' ⟨a, c, x.tr⟩ ∧ Below W.heap.size W w') := Lib.hid (fun W hW => by
  have h := rtrack_is x W (hx.below hW) h1
  unfold Rt.tr
  rw [List.length_append]
  exact h)
 obtain ⟨p1, hp1⟩ : ∃ k, x.pa.l.length = k := ⟨_, rfl⟩
 obtain ⟨p2, hp2⟩ : ∃ k, x.po.l.length = k := ⟨_, rfl⟩
 obtain ⟨p3, hp3⟩ : ∃ k, x.ov.l.length = k := ⟨_, rfl⟩
 obtain ⟨p4, hp4⟩ : ∃ k, x.fl.l.length = k := ⟨_, rfl⟩
 rw [slv hp1, slv hp2, slv hp3, slv hp4] at HTR ⊢
 have HTL : Hid (x.tr.length ≤ 100000) := Lib.hid (by unfold Rt.tr; rw [List.length_append]; exact h1)
 have HO := Lib.hid ho
 have HSX := Lib.hid hs
 have HFT := Lib.hid hf
 clear hx h1 hs ho hf hp1 hp2 hp3 hp4
 go_enter Try.func23, Try.ntmps23
 go_upto_region 1 with fail
 refine name_last (os := [.cells #[.string x.nm, .int .i64 x.sg, .slice x.pa.a p1 x.pa.c, .slice x.po.a p2 x.po.c, .slice x.ov.a p3 x.ov.c, .slice x.fl.a p4 x.fl.c] 44, .cells #[.int .u64 (oc : Int), .int .u32 (no : Int), .int .u32 (re : Int), .slice ia il ic] 35]) (w0 := w) rfl ?_
 intro W hat hbw
 obtain ⟨gr, hgr⟩ : ∃ g, g = w.heap.size := ⟨_, rfl⟩
 have q0 := hat 0 _ rfl
 obtain ⟨gi, hgi⟩ : ∃ g, g = gr + 1 := ⟨_, rfl⟩
 have q1 := hat 1 _ rfl
 rw [Nat.add_zero, ← hgr] at q0
 rw [← hgr, ← hgi] at q1
 rw [← hgr, ← hgi]
 have HQr := Lib.hid q0
 have HQi := Lib.hid q1
 have HB0 := Lib.hid hbw
 clear hat hbw q0 q1 hgr hgi
 have l0 := blk_cell HQr.out 0 _ rfl
 have l1 := blk_cell HQr.out 1 _ rfl
 have l2 := blk_cell HQr.out 2 _ rfl
 have l3 := blk_cell HQr.out 3 _ rfl
 have l4 := blk_cell HQr.out 4 _ rfl
 have l5 := blk_cell HQr.out 5 _ rfl
 go_wp2_with fail
 refine (HTR.out _ HB0.out).mono ?_
 rintro e w1 ⟨ua, un, uc, rfl, hun, hU, hb1⟩
 have HU := Lib.hid hU.row
 have HUN := Lib.hid hun
 have HB1 := Lib.hid (below_on HB0.out hb1)
 have HQ1 := Lib.hid (blk_keep hb1 HQi.out)
 have hum : un ≤ 100000 := by rw [hun]; exact HTL.out
 have HUM := Lib.hid hum
 clear l0 l1 l2 l3 l4 l5 hun hU hb1 hum
 go_upto_region 3 with fail
 go_loopg [6] un (fun g v wq => ∃ k : Nat, k + g = un ∧ v = .int .i64 (k : Int) ∧ Below w1.heap.size w1 wq)
 case atStart => exact ⟨0, by omega, rfl, Below.refl _ _⟩
 case round =>
  obtain ⟨k, hk, rfl, hbw⟩ := hrel
  have HK := Lib.hid hk
  have HBQ := Lib.hid hbw
  have HIQ := Lib.hid (blk_keep hbw HQ1.out)
  clear hk hbw
  by_cases hlk : k < un
  ·have d3 : (0 : Int) ≤ k := by omega
   have d4 : (k : Int) < un := by omega
   have e2 := k_succ hlk (Nat.le_trans HUM.out (by decide))
   have HLK := Lib.hid hlk
   obtain ⟨sj, hs⟩ : ∃ s, x.tr[k]? = some s := ⟨_, List.getElem?_eq_getElem (by have := HUN.out; omega)⟩
   have hsb := HSX.out _ (List.mem_of_getElem? hs)
   obtain ⟨j, rfl⟩ : ∃ j : Nat, sj = j := ⟨sj.toNat, by omega⟩
   have HJ63 : Hid (j ≤ 63) := Lib.hid (by omega)
   have HOC0 : Hid (hasBit oc j = false) := Lib.hid (by have h := HFT.out _ (List.mem_of_getElem? hs); rw [Int.toNat_natCast] at h; exact h)
   obtain ⟨A, hA⟩ : ∃ x, ua = x := ⟨_, rfl⟩
   have HAA := Lib.hid hA
   have hrow := HU.out
   rw [hA] at hrow ⊢
   rcases hrow with hnil | ⟨tb, toff, htb, ht0⟩
   ·have := HUN.out; rw [hnil] at this; simp at this; omega
   subst htb
   have hu0 := cell_later HBQ.out (ht0 k _ hs 0 (.int .i64 (j : Int)) rfl)
   rw [Nat.mul_one, Nat.add_zero] at hu0
   have HU0 := Lib.hid hu0
   clear ht0 hs hsb hlk hA hu0
   have KHT : Hid (∀ V, Calls Try.prog 22 #[.int .u64 (oc : Int), .int .i64 (j : Int)] V fun e w' => e = .returned (.bool false) ∧ Below V.heap.size V w') := Lib.hid (fun V => dhas_is false oc j V HJ63.out HO.out HOC0.out)
   have KHTW : Hid (∀ w', Below wr.heap.size wr w' → Calls Try.prog 22 #[.int .u64 (oc : Int), .int .i64 (j : Int)] w' fun e w'' => e = .returned (.bool false) ∧ Below wr.heap.size wr w'') := Lib.hid (fun w' hw' => (KHT.out w').mono (fun _ _ h => ⟨h.1, below_on hw' h.2⟩))
   go_upto_region 5 with fail
   refine wp_region_calm (by kernel_rfl) ?_ ?_
   ·kernel_rfl
   repeat first
    | go_big_quiet_skip
    | (go_big_quiet_want; go_big_quiet_op; go_big_quiet_on)
    | (with_reducible apply wpQuiet_step
       intro K hK
       go_simp
       first
        | (refine hK _ ?_; clear hK K)
        | (apply Exists.intro
           refine ⟨fun w' hw' => ?_, hK _ ?_⟩
           ·
            (first
             | with_reducible exact KHTW.out _ hw'
             | (have i0 := blk_cell (blk_keep hw' HIQ.out) 0 _ rfl
                go_simp
                first | done | with_reducible exact rfl | with_reducible exact ⟨rfl, rfl⟩ | with_reducible exact KHTW.out _ hw')
             | (have u0 := cell_later hw' HU0.out
                go_simp
                first | done | with_reducible exact rfl | with_reducible exact ⟨rfl, rfl⟩ | with_reducible exact KHTW.out _ hw'))
           clear hK K))
   refine wpQuiet_nil ?_
   intro w7 hw7
   have HB7 := Lib.hid (below_on HBQ.out hw7)
   clear hw7
   go_wp2_with fail
   rw [← HAA.out]
   go_roundg (un - (k + 1))
   case rel => exact ⟨k + 1, k_next HK.out HLK.out, by go_num, HB7.out⟩
   case measure => exact k_less HK.out HLK.out
  ·have d4 : ¬ ((k : Int) < (un : Int)) := by omega
   clear hlk
   go_wp2_with fail
   go_ret
   exact ⟨rfl, below_on HB1.out HBQ.out⟩

set_option maxHeartbeats 8000000 in
theorem asked_yes (oc no re : Nat) (ia : Option Addr) (il ic : Nat) (l : List (Nat × Int)) (n : Nat) (w : World) (hc : CmdsAt w ia l) (hln : l.length = il) (hil : il ≤ 100000) (hm : (2, (n : Int)) ∈ l) :
 Calls Try.prog 24 #[.agg #[.int .u64 (oc : Int), .int .u32 (no : Int), .int .u32 (re : Int), .slice ia il ic], .int .i64 (n : Int)] w fun e w' => e = .returned (.bool true) ∧ Below w.heap.size w w' := by
 have HCM := Lib.hid hc
 have HLN := Lib.hid hln
 have HIL := Lib.hid hil
 have HMEM := Lib.hid hm
 clear hc hln hil hm
 go_enter Try.func24, Try.ntmps24
 go_upto_region 1 with fail
 refine name_last (os := [.cells #[.int .u64 (oc : Int), .int .u32 (no : Int), .int .u32 (re : Int), .slice ia il ic] 35]) (w0 := w) rfl ?_
 intro W hat hbw
 obtain ⟨gi, hgi⟩ : ∃ g, g = w.heap.size := ⟨_, rfl⟩
 have q0 := hat 0 _ rfl
 rw [Nat.add_zero, ← hgi] at q0
 rw [← hgi]
 have HQi := Lib.hid q0
 have HB0 := Lib.hid hbw
 clear hat hbw q0 hgi
 go_upto_region 2 with fail
 go_loopg [5] il (fun g v wq => ∃ k : Nat, k + g = il ∧ v = .int .i64 (k : Int) ∧ (¬ (2, (n : Int)) ∈ l.take k) ∧ Below W.heap.size W wq)
 case atStart => exact ⟨0, by omega, rfl, by rw [List.take_zero]; exact fun h => (nomatch h), Below.refl _ _⟩
 case round =>
  obtain ⟨k, hk, rfl, hno, hbw⟩ := hrel
  have HK := Lib.hid hk
  have HNO := Lib.hid hno
  have HBQ := Lib.hid hbw
  have i3 := blk_cell (blk_keep hbw HQi.out) 3 _ rfl
  clear hk hbw hno
  by_cases hlk : k < il
  ·have d3 : (0 : Int) ≤ k := by omega
   have d4 : (k : Int) < il := by omega
   have e2 := k_succ hlk (Nat.le_trans HIL.out (by decide))
   have HLK := Lib.hid hlk
   obtain ⟨b, off, kd, nn, ha, hg, hkd, hnn, c0, c1⟩ := (HCM.out.below (below_on HB0.out HBQ.out)).at (i := k) (by rw [HLN.out]; exact hlk)
   have HG := Lib.hid hg
   obtain ⟨X, hX⟩ : ∃ x, ia = x := ⟨_, rfl⟩
   have HXX := Lib.hid hX
   rw [hX] at ha i3 ⊢
   subst ha
   have HNX : Hid (¬ (kd = 2 ∧ nn = (n : Int)) → ¬ (2, (n : Int)) ∈ l.take (k + 1)) := Lib.hid (fun h hm => by
    rw [List.take_add_one, hg] at hm
    rcases List.mem_append.1 hm with hm | hm
    ·exact HNO.out hm
    ·simp at hm
     exact h ⟨hm.1.symm, hm.2.symm⟩)
   clear hg hkd hnn hlk hX
   obtain ⟨b1, hb1⟩ : ∃ b, ((kd : Int) == 2) = b := ⟨_, rfl⟩
   obtain ⟨b2, hb2⟩ : ∃ b, (nn == (n : Int)) = b := ⟨_, rfl⟩
   have HB1 := Lib.hid hb1
   have HB2 := Lib.hid hb2
   cases b1 with
   | false =>
     have HN2 := Lib.hid (HNX.out (fun h => by have h1 := HB1.out; rw [h.1] at h1; cases h1))
     go_wp2_with fail
     rw [← HXX.out]
     go_roundg (il - (k + 1))
     case rel => exact ⟨k + 1, k_next HK.out HLK.out, by go_num, HN2.out, HBQ.out⟩
     case measure => exact k_less HK.out HLK.out
   | true =>
     cases b2 with
     | false =>
       have HN2 := Lib.hid (HNX.out (fun h => by have h1 := HB2.out; rw [h.2, beq_self_eq_true] at h1; cases h1))
       go_wp2_with fail
       rw [← HXX.out]
       go_roundg (il - (k + 1))
       case rel => exact ⟨k + 1, k_next HK.out HLK.out, by go_num, HN2.out, HBQ.out⟩
       case measure => exact k_less HK.out HLK.out
     | true =>
       go_wp2_with fail
       go_ret
       exact ⟨rfl, below_on HB0.out HBQ.out⟩
  ·exfalso
   exact HNO.out (by rw [List.take_of_length_le (by have := HK.out; have := HLN.out; omega)]; exact HMEM.out)
end Go.Proofs.Ytjienmjpfklgeaa
