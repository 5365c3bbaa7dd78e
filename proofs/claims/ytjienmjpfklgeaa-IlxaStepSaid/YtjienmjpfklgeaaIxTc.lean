/-
 Layer 10: the document's command.
-/
import Derived.Test.YtjienmjpfklgeaaIxTs
import Derived.Test.YtjienmjpfklgeaaIxTd
import Derived.Test.YtjienmjpfklgeaaIxR
namespace Go.Proofs.Ytjienmjpfklgeaa
open Go.RowKit
set_option maxRecDepth 100000
theorem pt_zero (p : Nat) : ptL [] p = p := rfl
theorem pt_take {l : List (Int × Bool)} {k : Nat} {j : Nat} {B : Bool} (h : l[k]? = some ((j : Int), B)) (p : Nat) : ptL (l.take (k + 1)) p = if B then withBit (ptL (l.take k) p) j else woBit (ptL (l.take k) p) j := by
 unfold ptL
 rw [List.take_add_one, h, List.foldl_append]
 show (if B = true then withBit _ ((j : Int).toNat) else woBit _ ((j : Int).toNat)) = _
 rw [Int.toNat_natCast]
theorem with_wo {p j : Nat} (hp : p < 4294967296) (hj : j ≤ 31) : withBit (woBit p j) j = withBit p j := by
 rw [withBit_or, withBit_or, ← woBit_and p j (by omega) (by omega)]
 have hpw : pw j < 18446744073709551616 := Nat.lt_trans (pw_lt32 hj) (by decide)
 refine Nat.eq_of_testBit_eq fun i => ?_
 rw [Nat.testBit_or, Nat.testBit_or, Nat.testBit_and]
 by_cases h : i < 64
 ·rw [not_bit hpw h]
  cases (pw j).testBit i <;> simp
 ·have h1 : p.testBit i = false := Nat.testBit_lt_two_pow (Nat.lt_of_lt_of_le hp (Nat.pow_le_pow_right (n := 2) (i := 32) (by omega) (by omega)))
  rw [h1]; simp
theorem in_one {S P R kd : Nat} {nn : Int} : inRight S P R 0 0 0 [(kd, nn)] = cmdRight P R (kd, nn) := by
 unfold inRight
 have h1 : (0 : Nat) < 2 ^ S := Nat.two_pow_pos S
 have h2 : (0 : Nat) ||| 0 < 2 ^ P := Nat.two_pow_pos P
 rw [decide_eq_true h1, decide_eq_true h2, List.all_cons, List.all_nil]
 simp
/-- one command, as the document says it -/
theorem cmd_bad {L : Lay} {s : St} {oc kd : Nat} {nn : Int} (h : cmdRight L.po.l.length L.rt.l.length (kd, nn) = false) : comD (tbL L) s oc (kd, nn) = s := by
 unfold cmdRight at h
 have h := of_decide_eq_false h
 dsimp only at h
 unfold comD comG
 by_cases h0 : nn < 0
 ·rw [if_pos h0]
 ·rw [if_neg h0]
  by_cases h3 : kd = 3
  ·rw [if_pos h3, tbl_li, if_neg (by omega)]
  ·rw [if_neg h3]
   cases hx : (tbL L).rw[nn.toNat]? with
   | none => rfl
   | some x =>
     have hl : nn.toNat < L.rt.l.length := by
      have := (List.getElem?_eq_some_iff.1 hx).1
      rw [tbl_len] at this
      exact this
     dsimp only
     rw [if_neg (by omega), if_neg (by omega)]
theorem cmd_set {L : Lay} {s : St} {oc n : Nat} {x : Rt} (hx : L.rt.l[n]? = some x) : comD (tbL L) s oc (1, (n : Int)) = setS (tbL L) s oc n (rwL L n x) := by
 unfold comD comG
 dsimp only
 rw [if_neg (by omega), if_neg (by omega), Int.toNat_natCast, tbl_at hx]
 rfl
theorem cmd_can {L : Lay} {s : St} {oc n : Nat} {x : Rt} (hx : L.rt.l[n]? = some x) : comD (tbL L) s oc (2, (n : Int)) = canD s oc n (rwL L n x) := by
 unfold comD comG
 dsimp only
 rw [if_neg (by omega), if_neg (by omega), Int.toNat_natCast, tbl_at hx]
 rfl
theorem cmd_mov {L : Lay} {s : St} {oc n : Nat} (hn : n < L.po.l.length) : comD (tbL L) s oc (3, (n : Int)) = movS (tbL L) s oc n := by
 unfold comD comG
 dsimp only
 rw [if_neg (by omega), if_pos rfl, Int.toNat_natCast, tbl_li, if_pos hn]
theorem set_if (T : Tb) (s : St) (oc n : Nat) (x : Rw) : setS T s oc n x = if maySet T s oc n x then { s with lk := withBit s.lk n, pt := ptL x.nd s.pt } else s := rfl
theorem can_if (s : St) (oc n : Nat) (x : Rw) : canD s oc n x = if mayCan s n then { s with ca := withBit s.ca n, tm := if hasBit oc x.ah.toNat then upd s.tm n 20 else upd s.tm n 0 } else s := rfl
theorem mov_if (T : Tb) (s : St) (oc p : Nat) : movS T s oc p = if mayMov T s oc p then { s with pt := flipB s.pt p } else s := rfl
theorem mov_may (T : Tb) (s : St) (oc p : Nat) : mayMov T s oc p = (!hasBit oc (T.li.getD p 0).toNat && !nedS T s p T.rw.length) := rfl
theorem rwl_ah (L : Lay) (i : Nat) (x : Rt) : (rwL L i x).ah = secOf L x.sg := rfl
theorem pt_lt (l : List (Int × Bool)) (h : ∀ n ∈ l, 0 ≤ n.1 ∧ n.1 ≤ 31) : ∀ p, p < 4294967296 → ptL l p < 4294967296 := by
 induction l with
 | nil => intro p hp; exact hp
 | cons a l ih =>
   intro p hp
   unfold ptL
   rw [List.foldl_cons]
   refine ih (fun n hn => h n (List.mem_cons_of_mem _ hn)) _ ?_
   have ha := h a List.mem_cons_self
   split
   ·rw [withBit_or]; exact Nat.or_lt_two_pow (n := 32) hp (Nat.pow_lt_pow_right (by omega) (by omega))
   ·exact Nat.lt_of_le_of_lt (woBit_le _ _) hp
attribute [local irreducible] Sl.v hasBit pw withBit woBit cyL stL stV tmL freeS ndBad maySet ptL setS mayCan canS canD nedS flipB mayMov movS comG relS rouS proS tidyS comsG rousS prosS nextG outS lnOk rightK rgtS eqS Mc.tb upd mayS checkS sideN
attribute [local irreducible] tbL rwL secOf cofL Rt.tr Rt.nd conflictS pairS formedS
attribute [local irreducible] mskS

set_option maxHeartbeats 8000000 in
theorem dcmd_0 (L : Lay) (s : St) (oc no re : Nat) (ia : Option Addr) (il ic : Nat) (kd : Nat) (nn : Int) (w : World) (hL : LayAt w L) (hc : (checkS L).1 = 0) (hs : s.ok) (ho : oc < 18446744073709551616) (hkd : kd ≤ 255) (h1 : -9223372036854775808 ≤ nn) (h2 : nn ≤ 9223372036854775807) (hr : cmdRight L.po.l.length L.rt.l.length (kd, nn) = false) :
 Calls Try.prog 29 #[.agg #[L.se.v, L.po.v, L.sg.v, L.rt.v], .agg (stL s).toArray, .agg #[.int .u64 (oc : Int), .int .u32 (no : Int), .int .u32 (re : Int), .slice ia il ic], .agg #[.int .u8 (kd : Int), .int .i64 nn]] w fun e w' => e = .returned (.agg (stL (comD (tbL L) s oc (kd, nn))).toArray) ∧ Below w.heap.size w w' := by
 have HBR := Lib.hid hr
 have HMAY : Hid (mayS L = true) := Lib.hid (cs_zero hc)
 have HS4 : Hid (L.rt.l.length ≤ 64) := Lib.hid (mayS_small (cs_zero hc)).2.2.2
 have HCK := Lib.hid hc
 have HS2 : Hid (L.po.l.length ≤ 32) := Lib.hid (mayS_small (cs_zero hc)).2.1
 have HS1 : Hid (L.se.l.length ≤ 64) := Lib.hid (mayS_small (cs_zero hc)).1
 have HSO := Lib.hid hs
 have HOC := Lib.hid ho
 obtain ⟨n1, hn1⟩ : ∃ n, L.se.l.length = n := ⟨_, rfl⟩
 obtain ⟨n2, hn2⟩ : ∃ n, L.po.l.length = n := ⟨_, rfl⟩
 obtain ⟨n3, hn3⟩ : ∃ n, L.sg.l.length = n := ⟨_, rfl⟩
 obtain ⟨n4, hn4⟩ : ∃ n, L.rt.l.length = n := ⟨_, rfl⟩
 have HLW := Lib.hid hL
 have HN1 := Lib.hid hn1
 have HN2 := Lib.hid hn2
 have HN3 := Lib.hid hn3
 have HN4 := Lib.hid hn4
 have KR : Hid (∀ (V : World) (g : Nat), V.heap[g]? = some (.cells #[.int .u8 (kd : Int), .int .i64 nn] 74) → Calls Try.prog 58 #[.agg #[.slice L.se.a n1 L.se.c, .slice L.po.a n2 L.po.c, .slice L.sg.a n3 L.sg.c, .slice L.rt.a n4 L.rt.c], .agg #[.int .u64 0, .int .u32 0, .int .u32 0, .slice (some ⟨g, 0, none⟩) 1 1]] V fun e w' => e = .returned (.bool false) ∧ Below V.heap.size V w') := Lib.hid (fun V g hg => by
  have h := refright_any n1 n2 n3 n4 L.se.a L.po.a L.sg.a L.rt.a L.se.c L.po.c L.sg.c L.rt.c 0 0 0 (some ⟨g, 0, none⟩) [(kd, nn)] 1 1 V rfl (by omega) (by rw [← hn1]; have := HS1.out; omega) (by rw [← hn2]; have := HS2.out; omega) (by rw [← hn4]; have := HS4.out; omega) (cmd_at hg (by omega) h1 h2) (by omega) (by omega) (by omega)
  rw [in_one, show min n2 32 = L.po.l.length by have := HS2.out; omega, show min n4 64 = L.rt.l.length by have := HS4.out; omega, HBR.out] at h
  exact h)
 rw [hn4] at HS4
 rw [slv hn1, slv hn2, slv hn3, slv hn4]
 have HROWL : Hid (RowAt 6 rtC w L.rt.a L.rt.l) := Lib.hid hL.rt.row
 clear hn1 hn2 hn3 hn4 hL hc hs ho hkd h1 h2
 go_enter Try.func29, Try.ntmps29
 go_upto_region 1 with fail
 rw [zero_st]
 refine name_last (os := [.cells #[.slice L.se.a n1 L.se.c, .slice L.po.a n2 L.po.c, .slice L.sg.a n3 L.sg.c, .slice L.rt.a n4 L.rt.c] 27, .cells (stL s).toArray 32, .cells #[.int .u64 (oc : Int), .int .u32 (no : Int), .int .u32 (re : Int), .slice ia il ic] 35, .cells #[.int .u8 (kd : Int), .int .i64 nn] 74, .cells (stL zS).toArray 32]) (w0 := w) rfl ?_
 intro W hat hbw
 obtain ⟨gl, hgl⟩ : ∃ g, g = w.heap.size := ⟨_, rfl⟩
 have q0 := hat 0 _ rfl
 obtain ⟨gs, hgs⟩ : ∃ g, g = gl + 1 := ⟨_, rfl⟩
 have q1 := hat 1 _ rfl
 obtain ⟨gi, hgi⟩ : ∃ g, g = gs + 1 := ⟨_, rfl⟩
 have q2 := hat 2 _ rfl
 obtain ⟨gc, hgc⟩ : ∃ g, g = gi + 1 := ⟨_, rfl⟩
 have q3 := hat 3 _ rfl
 obtain ⟨gr, hgr⟩ : ∃ g, g = gc + 1 := ⟨_, rfl⟩
 have q4 := hat 4 _ rfl
 rw [Nat.add_zero, ← hgl] at q0
 rw [← hgl, ← hgs] at q1
 rw [← hgl, show gl + 2 = gi by omega] at q2
 rw [← hgl, show gl + 3 = gc by omega] at q3
 rw [← hgl, show gl + 4 = gr by omega] at q4
 rw [← hgl, ← hgs, ← hgi, ← hgc, ← hgr]
 have HQl := Lib.hid q0
 have HQs := Lib.hid q1
 have HQi := Lib.hid q2
 have HQc := Lib.hid q3
 have HQr := Lib.hid q4
 have HB0 := Lib.hid hbw
 have HG : Hid (w.heap.size ≤ gs ∧ gr ≠ gs ∧ gl ≠ gs ∧ gi ≠ gs ∧ gc ≠ gs) := Lib.hid (by omega)
 have HGR : Hid (w.heap.size ≤ gr) := Lib.hid (by omega)
 clear hat hbw q0 q1 q2 q3 q4 hgl hgs hgi hgc hgr
 have l0 := blk_cell HQl.out 0 _ rfl
 have l1 := blk_cell HQl.out 1 _ rfl
 have l2 := blk_cell HQl.out 2 _ rfl
 have l3 := blk_cell HQl.out 3 _ rfl
 have m0 := blk_cell HQc.out 0 _ rfl
 have m1 := blk_cell HQc.out 1 _ rfl
 go_wp2_with fail
 have hbn := below1 W (.cells #[.int .u8 (kd : Int), .int .i64 nn] 74)
 have hqn := alloc1 W (.cells #[.int .u8 (kd : Int), .int .i64 nn] 74) (Below.refl _ _)
 refine (KR.out _ _ hqn).mono ?_
 rintro e w1 ⟨rfl, hb1⟩
 have HBW1 := Lib.hid (below_on hbn hb1)
 have HB1 := Lib.hid (below_on HB0.out HBW1.out)
 have HL1 := Lib.hid (blk_keep HBW1.out HQl.out)
 have HS1' := Lib.hid (blk_keep HBW1.out HQs.out)
 have HI1 := Lib.hid (blk_keep HBW1.out HQi.out)
 have HC1 := Lib.hid (blk_keep HBW1.out HQc.out)
 have HR1 := Lib.hid (blk_keep HBW1.out HQr.out)
 clear hbn hqn hb1 l0 l1 l2 l3 m0 m1 KR
 go_upto_region 2 with fail
 have HLD := Lib.hid (load_st HS1'.out)
 obtain ⟨hst, hq9, ho9⟩ := store_st (s' := s) HR1.out
 have HST := Lib.hid hst
 have HQ9 := Lib.hid hq9
 have HB9 : Hid (Below w.heap.size w (w1.setCells gr 0 (stL s))) := Lib.hid (Only.below HB1.out HGR.out HB1.out.size ho9)
 clear hst hq9 ho9
 go_wp2_with (first
  | ((with_reducible refine wpList_load_is (op := ⟨some 17, _, _, _, _, _⟩) rfl 32 _ rfl _ _ ?_ HLD.out ?_); (· rfl))
  | ((with_reducible refine wpList_store_is (op := ⟨none, .store 32 _ _, _, _, _, _⟩) rfl 32 _ _ rfl _ _ ?_ ?_ _ HST.out ?_); (· rfl); (· rfl)))
 (try simp only [Exit.inBlock, Exit.then])
 refine bodyPost_ret (results_cell_row (g := gr) rfl _ _ 32 (stL s).toArray (0, 0) _ rfl HQ9.out Try.underlying32 rfl (by rw [List.size_toArray, st_len]; exact info_st)) rfl ?_
 exact ⟨by rw [cmd_bad HBR.out], HB9.out⟩
end Go.Proofs.Ytjienmjpfklgeaa
