/-
 Layer 10: IlxaTidy.
-/
import Derived.Test.YtjienmjpfklgeaaIyD
import Derived.Test.YtjienmjpfklgeaaIxTe
namespace Go.Proofs.Ytjienmjpfklgeaa
open Go.RowKit
set_option maxRecDepth 100000
theorem tidy_tidy (N P : Nat) (s : St) : tidyS N P (tidyS N P s) = tidyS N P s := by
 have a1 : ∀ x y : Nat, (x &&& y) &&& y = x &&& y := fun x y => by rw [Nat.and_assoc, Nat.and_self]
 have h1 : (tidyS N P s).lk &&& (pw N - 1) = (tidyS N P s).lk := a1 _ _
 have h2 : (tidyS N P s).us &&& ((tidyS N P s).lk &&& (pw N - 1)) = (tidyS N P s).us := by rw [h1]; exact a1 _ _
 have h3 : (tidyS N P s).ca &&& ((tidyS N P s).lk &&& (pw N - 1)) = (tidyS N P s).ca := by rw [h1]; exact a1 _ _
 have h4 : (tidyS N P s).pt &&& (pw P - 1) = (tidyS N P s).pt := a1 _ _
 have h5 : (tidyS N P (tidyS N P s)).tm = (tidyS N P s).tm := by
  funext n
  show (if hasBit ((tidyS N P s).ca &&& ((tidyS N P s).lk &&& (pw N - 1))) n then min ((tidyS N P s).tm n) 20 else 0) = _
  rw [h3]
  show (if hasBit (s.ca &&& (s.lk &&& (pw N - 1))) n then min (if hasBit (s.ca &&& (s.lk &&& (pw N - 1))) n then min (s.tm n) 20 else 0) 20 else 0) = (if hasBit (s.ca &&& (s.lk &&& (pw N - 1))) n then min (s.tm n) 20 else 0)
  cases hasBit (s.ca &&& (s.lk &&& (pw N - 1))) n with
  | false => rfl
  | true =>
    show min (min (s.tm n) 20) 20 = min (s.tm n) 20
    omega
 show (⟨(tidyS N P s).lk &&& (pw N - 1), (tidyS N P s).us &&& ((tidyS N P s).lk &&& (pw N - 1)), (tidyS N P s).ca &&& ((tidyS N P s).lk &&& (pw N - 1)), (tidyS N P (tidyS N P s)).tm, (tidyS N P s).pt &&& (pw P - 1)⟩ : St) = _
 rw [h2, h3, h1, h4, h5]
theorem eqs_self (s : St) : eqS s s = true := by
 unfold eqS
 simp
theorem eq_self (s : St) (w : World) : (binOp .eql 32 (.agg (stL s).toArray) (.agg (stL s).toArray)).run Try.prog w = .ok (.bool true) w := by
 have h := eql_st s s w
 rw [eqs_self] at h
 exact h
theorem mtidy {w V : World} {m : Nat} {M : Mc} {L : Lay} (hM : MachX (fun b => w.heap.size ≤ b) w m M) (hV : Below w.heap.size w V) (hc : (checkS L).1 = 0) (ht : M.tb = tbL L) (hp : M.pt = pw L.po.l.length - 1) (s : St) (hs : s.ok) :
 Calls Try.prog 17 #[.pointer (some ⟨m, 0, none⟩), .agg (stL s).toArray] V fun e w' => e = .returned (.agg (stL (tidyS L.rt.l.length L.po.l.length s)).toArray) ∧ Below V.heap.size V w' := by
 have h1 : M.ln.l.length = L.rt.l.length := by rw [← tb_len, ht, tbl_len]
 have h2 : M.li.l.length = L.po.l.length := by rw [← tb_li, ht, tbl_li]
 have hz := mayS_small (cs_zero hc)
 have h := tidy_is (fun b => w.heap.size ≤ b) m M s L.rt.l.length M.li.l.length V (hM.step (WX.of_below hV)) h1 hz.2.2.2 (by rw [hp, h2]) (by rw [h2]; exact hz.2.1) hs
 rw [h2] at h
 exact h
theorem mright {w V : World} {m : Nat} {M : Mc} {L : Lay} (hM : MachX (fun b => w.heap.size ≤ b) w m M) (hV : Below w.heap.size w V) (hc : (checkS L).1 = 0) (ht : M.tb = tbL L) (hp : M.pt = pw L.po.l.length - 1) (s : St) (hs : s.ok) :
 Calls Try.prog 18 #[.pointer (some ⟨m, 0, none⟩), .agg (stL s).toArray] V fun e w' => e = .returned (.bool (rgtS (tbL L) s)) ∧ Below V.heap.size V w' := by
 have h2 : M.li.l.length = L.po.l.length := by rw [← tb_li, ht, tbl_li]
 have h := mright_is (fun b => w.heap.size ≤ b) m M s V (hM.step (WX.of_below hV)) (by rw [ht]; exact tbl_ok hc) (by rw [hp, h2]) hs
 rw [ht] at h
 exact h
attribute [local irreducible] Sl.v hasBit pw withBit woBit cyL stL stV tmL freeS ndBad maySet ptL setS mayCan canS canD nedS flipB mayMov movS comG relS rouS proS tidyS comsG rousS prosS nextG outS lnOk rightK rgtS eqS Mc.tb upd mayS checkS sideN
attribute [local irreducible] tbL rwL secOf cofL Rt.tr Rt.nd conflictS pairS formedS
attribute [local irreducible] mskS
attribute [local irreducible] tdS

set_option maxHeartbeats 8000000 in
theorem ilxaTidy_is (L : Lay) (s : St) (w : World) (hL : LayAt w L) (hs : s.ok) :
 Calls Try.prog 5 #[.agg #[L.se.v, L.po.v, L.sg.v, L.rt.v], .agg (stL s).toArray] w fun e w' => e = .returned (.bool true) ∧ Below w.heap.size w w' := by
 obtain ⟨n1, hn1⟩ : ∃ n, L.se.l.length = n := ⟨_, rfl⟩
 obtain ⟨n2, hn2⟩ : ∃ n, L.po.l.length = n := ⟨_, rfl⟩
 obtain ⟨n3, hn3⟩ : ∃ n, L.sg.l.length = n := ⟨_, rfl⟩
 obtain ⟨n4, hn4⟩ : ∃ n, L.rt.l.length = n := ⟨_, rfl⟩
 obtain ⟨z, hz⟩ : ∃ z, weightS 400 L = z := ⟨_, rfl⟩
 by_cases h4 : 400 < z
 ·skip
  have KM : Hid (∀ V, Below w.heap.size w V → Calls Try.prog 10 #[.agg #[L.se.v, L.po.v, L.sg.v, L.rt.v]] V fun e w' => e = .returned (.tuple #[.pointer none, .bool false]) ∧ Below V.heap.size V w') := Lib.hid (fun V hV => made_big L V (hL.below hV) z hz h4)
  rw [slv hn1, slv hn2, slv hn3, slv hn4] at KM ⊢
  clear hn1 hn2 hn3 hn4 hL hs hz
  go_enter Try.func5, Try.ntmps5
  go_upto_region 1 with fail
  refine name_last (os := [.cells #[.slice L.se.a n1 L.se.c, .slice L.po.a n2 L.po.c, .slice L.sg.a n3 L.sg.c, .slice L.rt.a n4 L.rt.c] 27, .cells (stL s).toArray 32]) (w0 := w) rfl ?_
  intro W hat hbw
  obtain ⟨gl, hgl⟩ : ∃ g, g = w.heap.size := ⟨_, rfl⟩
  have q0 := hat 0 _ rfl
  obtain ⟨gs, hgs⟩ : ∃ g, g = gl + 1 := ⟨_, rfl⟩
  have q1 := hat 1 _ rfl
  rw [Nat.add_zero, ← hgl] at q0
  rw [← hgl, ← hgs] at q1
  rw [← hgl, ← hgs]
  have HQl := Lib.hid q0
  have HQs := Lib.hid q1
  have HB0 := Lib.hid hbw
  clear hat hbw q0 q1 hgl hgs
  have l0 := blk_cell HQl.out 0 _ rfl
  have l1 := blk_cell HQl.out 1 _ rfl
  have l2 := blk_cell HQl.out 2 _ rfl
  have l3 := blk_cell HQl.out 3 _ rfl
  go_wp2_with fail
  refine (KM.out _ HB0.out).mono ?_
  rintro e w1 ⟨rfl, hb1⟩
  have HB1 := Lib.hid (below_on HB0.out hb1)
  clear hb1 l0 l1 l2 l3
  go_wp2_with fail
  refine (works_is _).mono ?_
  rintro e w2 ⟨rfl, hb2⟩
  have HB2 := Lib.hid (below_on HB1.out hb2)
  clear hb2
  go_wp2_with fail
  go_ret
  exact ⟨rfl, HB2.out⟩
 ·by_cases hc : (checkS L).1 = 0
  rotate_left
  ·skip
   have KM : Hid (∀ V, Below w.heap.size w V → Calls Try.prog 10 #[.agg #[L.se.v, L.po.v, L.sg.v, L.rt.v]] V fun e w' => e = .returned (.tuple #[.pointer none, .bool false]) ∧ Below V.heap.size V w') := Lib.hid (fun V hV => made_no L V (hL.below hV) z hz h4 _ rfl hc)
   rw [slv hn1, slv hn2, slv hn3, slv hn4] at KM ⊢
   clear hn1 hn2 hn3 hn4 hL hs hz hc
   go_enter Try.func5, Try.ntmps5
   go_upto_region 1 with fail
   refine name_last (os := [.cells #[.slice L.se.a n1 L.se.c, .slice L.po.a n2 L.po.c, .slice L.sg.a n3 L.sg.c, .slice L.rt.a n4 L.rt.c] 27, .cells (stL s).toArray 32]) (w0 := w) rfl ?_
   intro W hat hbw
   obtain ⟨gl, hgl⟩ : ∃ g, g = w.heap.size := ⟨_, rfl⟩
   have q0 := hat 0 _ rfl
   obtain ⟨gs, hgs⟩ : ∃ g, g = gl + 1 := ⟨_, rfl⟩
   have q1 := hat 1 _ rfl
   rw [Nat.add_zero, ← hgl] at q0
   rw [← hgl, ← hgs] at q1
   rw [← hgl, ← hgs]
   have HQl := Lib.hid q0
   have HQs := Lib.hid q1
   have HB0 := Lib.hid hbw
   clear hat hbw q0 q1 hgl hgs
   have l0 := blk_cell HQl.out 0 _ rfl
   have l1 := blk_cell HQl.out 1 _ rfl
   have l2 := blk_cell HQl.out 2 _ rfl
   have l3 := blk_cell HQl.out 3 _ rfl
   go_wp2_with fail
   refine (KM.out _ HB0.out).mono ?_
   rintro e w1 ⟨rfl, hb1⟩
   have HB1 := Lib.hid (below_on HB0.out hb1)
   clear hb1 l0 l1 l2 l3
   go_wp2_with fail
   refine (works_is _).mono ?_
   rintro e w2 ⟨rfl, hb2⟩
   have HB2 := Lib.hid (below_on HB1.out hb2)
   clear hb2
   go_wp2_with fail
   go_ret
   exact ⟨rfl, HB2.out⟩
  ·have KM : Hid (∀ V, Below w.heap.size w V → Calls Try.prog 10 #[.agg #[L.se.v, L.po.v, L.sg.v, L.rt.v]] V fun e w' => ∃ m M, e = .returned (.tuple #[.pointer (some ⟨m, 0, none⟩), .bool true]) ∧ MachX (fun b => w'.heap.size ≤ b) w' m M ∧ M.tb = tbL L ∧ M.pt = pw L.po.l.length - 1 ∧ Below V.heap.size V w') := Lib.hid (fun V hV => (made_is L V (hL.below hV) z hz h4 hc).mono (fun _ _ ⟨m, M, e1, e2, e3, e4, e5⟩ => ⟨m, M, e1, mach_low e2, e3, e4, e5⟩))
   obtain ⟨TS, hTS⟩ : ∃ t, tidyS L.rt.l.length L.po.l.length s = t := ⟨_, rfl⟩
   have HTS := Lib.hid hTS
   have HTT : Hid (tidyS L.rt.l.length L.po.l.length TS = TS) := Lib.hid (by rw [← hTS]; exact tidy_tidy _ _ _)
   have HTO : Hid TS.ok := Lib.hid (hTS ▸ tidy_ok _ _ hs)
   obtain ⟨R1, hR1⟩ : ∃ b, rgtS (tbL L) s = b := ⟨_, rfl⟩
   obtain ⟨R2, hR2⟩ : ∃ b, rgtS (tbL L) TS = b := ⟨_, rfl⟩
   have HR := Lib.hid (And.intro hR1 hR2)
   have DT : Hid (∀ V, Below w.heap.size w V → Calls Try.prog 19 #[.agg #[L.se.v, L.po.v, L.sg.v, L.rt.v], .agg (stL s).toArray] V fun e w' => e = .returned (.agg (stL TS).toArray) ∧ Below V.heap.size V w') := Lib.hid (fun V hV => hTS ▸ dtidy_is L s V (hL.below hV) hc hs)
   have DR : Hid (∀ V, Below w.heap.size w V → Calls Try.prog 20 #[.agg #[L.se.v, L.po.v, L.sg.v, L.rt.v], .agg (stL s).toArray] V fun e w' => e = .returned (.bool R1) ∧ Below V.heap.size V w') := Lib.hid (fun V hV => hR1 ▸ drightT_is L s V (hL.below hV) hc hs)
   have DR2 : Hid (∀ V, Below w.heap.size w V → Calls Try.prog 20 #[.agg #[L.se.v, L.po.v, L.sg.v, L.rt.v], .agg (stL TS).toArray] V fun e w' => e = .returned (.bool R2) ∧ Below V.heap.size V w') := Lib.hid (fun V hV => hR2 ▸ drightT_is L TS V (hL.below hV) hc HTO.out)
   have HCK := Lib.hid hc
   have HSO := Lib.hid hs
   rw [slv hn1, slv hn2, slv hn3, slv hn4] at KM DT DR DR2 ⊢
   clear hn1 hn2 hn3 hn4 hL hs hz hc hTS hR1 hR2
   go_enter Try.func5, Try.ntmps5
   go_upto_region 1 with fail
   refine name_last (os := [.cells #[.slice L.se.a n1 L.se.c, .slice L.po.a n2 L.po.c, .slice L.sg.a n3 L.sg.c, .slice L.rt.a n4 L.rt.c] 27, .cells (stL s).toArray 32]) (w0 := w) rfl ?_
   intro W hat hbw
   obtain ⟨gl, hgl⟩ : ∃ g, g = w.heap.size := ⟨_, rfl⟩
   have q0 := hat 0 _ rfl
   obtain ⟨gs, hgs⟩ : ∃ g, g = gl + 1 := ⟨_, rfl⟩
   have q1 := hat 1 _ rfl
   rw [Nat.add_zero, ← hgl] at q0
   rw [← hgl, ← hgs] at q1
   rw [← hgl, ← hgs]
   have HQl := Lib.hid q0
   have HQs := Lib.hid q1
   have HB0 := Lib.hid hbw
   clear hat hbw q0 q1 hgl hgs
   have l0 := blk_cell HQl.out 0 _ rfl
   have l1 := blk_cell HQl.out 1 _ rfl
   have l2 := blk_cell HQl.out 2 _ rfl
   have l3 := blk_cell HQl.out 3 _ rfl
   go_wp2_with fail
   refine (KM.out _ HB0.out).mono ?_
   rintro e w1 ⟨m, M, rfl, hM, ht, hp, hb1⟩
   have HM := Lib.hid (And.intro hM (And.intro ht hp))
   have HB1 := Lib.hid (below_on HB0.out hb1)
   have HL1 := Lib.hid (blk_keep hb1 HQl.out)
   have HS1 := Lib.hid (blk_keep hb1 HQs.out)
   clear hb1 hM ht hp l0 l1 l2 l3
   have HLD := Lib.hid (load_st HS1.out)
   go_wp2_with (first
    | ((with_reducible refine wpList_load_is (op := ⟨some 17, _, _, _, _, _⟩) rfl 32 _ rfl _ _ ?_ HLD.out ?_); (· rfl)))
   refine Calls.mono (HTS.out ▸ mtidy HM.out.1 (Below.refl _ _) HCK.out HM.out.2.1 HM.out.2.2 s HSO.out) ?_
   rintro e w2 ⟨rfl, hb2⟩
   have HB2 := Lib.hid (below_on HB1.out hb2)
   have HM2 := Lib.hid hb2
   have HL2 := Lib.hid (blk_keep hb2 HL1.out)
   have HS2 := Lib.hid (blk_keep hb2 HS1.out)
   clear hb2 HLD
   have ha := alloc1 w2 (.cells (stL zS).toArray 32) (Below.refl _ _)
   have hk := below1 w2 (.cells (stL zS).toArray 32)
   obtain ⟨hst, hq9, ho9⟩ := store_st (s' := TS) ha
   have HST := Lib.hid hst
   have HTt0 := Lib.hid hq9
   have HLt0 := Lib.hid (Only.keep ho9 (Nat.ne_of_lt (blk_lt HL2.out)) (blk_keep hk HL2.out))
   have HSt0 := Lib.hid (Only.keep ho9 (Nat.ne_of_lt (blk_lt HS2.out)) (blk_keep hk HS2.out))
   have HKt : Hid (Below w2.heap.size w2 ((w2.alloc (.cells (stL zS).toArray 32)).setCells w2.heap.size 0 (stL TS))) := Lib.hid (Only.below hk (Nat.le_refl _) hk.size ho9)
   obtain ⟨VT, hVT⟩ : ∃ V', V' = (w2.alloc (.cells (stL zS).toArray 32)).setCells w2.heap.size 0 (stL TS) := ⟨_, rfl⟩
   rw [← hVT] at HST HTt0 HLt0 HSt0 HKt
   clear ha hk hst hq9 ho9 hVT
   go_upto_region 5 with (first
    | rw [zero_st]
    | ((with_reducible refine wpList_store_is (op := ⟨none, .store 32 _ _, _, _, _, _⟩) rfl 32 _ _ rfl _ _ ?_ ?_ _ HST.out ?_); (· rfl); (· rfl)))
   simp only [Act.put]
   obtain ⟨gt, hgt⟩ : ∃ g, g = w2.heap.size := ⟨_, rfl⟩
   rw [← hgt] at HTt0 ⊢
   have HTt := HTt0
   have HLt := HLt0
   have HSt := HSt0
   have HBt := Lib.hid (below_on HB2.out HKt.out)
   have HMt := Lib.hid (below_on HM2.out HKt.out)
   clear hgt HST HTt0 HLt0 HSt0 HKt HB2 HM2 HL2 HS2
   have KDT : Hid (∀ w', Below VT.heap.size VT w' → Calls Try.prog 19 #[.agg #[.slice L.se.a n1 L.se.c, .slice L.po.a n2 L.po.c, .slice L.sg.a n3 L.sg.c, .slice L.rt.a n4 L.rt.c], .agg (stL s).toArray] w' fun e w'' => e = .returned (.agg (stL TS).toArray) ∧ Below VT.heap.size VT w'') := Lib.hid (fun w' hw' => (DT.out w' (below_on HBt.out hw')).mono (fun _ _ h => ⟨h.1, below_on hw' h.2⟩))
   have KMT : Hid (∀ w', Below VT.heap.size VT w' → Calls Try.prog 17 #[.pointer (some ⟨m, 0, none⟩), .agg (stL TS).toArray] w' fun e w'' => e = .returned (.agg (stL TS).toArray) ∧ Below VT.heap.size VT w'') := Lib.hid (fun w' hw' => (HTT.out ▸ mtidy HM.out.1 (below_on HMt.out hw') HCK.out HM.out.2.1 HM.out.2.2 TS HTO.out).mono (fun _ _ h => ⟨h.1, below_on hw' h.2⟩))
   have KMR : Hid (∀ w', Below VT.heap.size VT w' → Calls Try.prog 18 #[.pointer (some ⟨m, 0, none⟩), .agg (stL s).toArray] w' fun e w'' => e = .returned (.bool R1) ∧ Below VT.heap.size VT w'') := Lib.hid (fun w' hw' => (HR.out.1 ▸ mright HM.out.1 (below_on HMt.out hw') HCK.out HM.out.2.1 HM.out.2.2 s HSO.out).mono (fun _ _ h => ⟨h.1, below_on hw' h.2⟩))
   have KDR : Hid (∀ w', Below VT.heap.size VT w' → Calls Try.prog 20 #[.agg #[.slice L.se.a n1 L.se.c, .slice L.po.a n2 L.po.c, .slice L.sg.a n3 L.sg.c, .slice L.rt.a n4 L.rt.c], .agg (stL s).toArray] w' fun e w'' => e = .returned (.bool R1) ∧ Below VT.heap.size VT w'') := Lib.hid (fun w' hw' => (DR.out w' (below_on HBt.out hw')).mono (fun _ _ h => ⟨h.1, below_on hw' h.2⟩))
   have KMR2 : Hid (∀ w', Below VT.heap.size VT w' → Calls Try.prog 18 #[.pointer (some ⟨m, 0, none⟩), .agg (stL TS).toArray] w' fun e w'' => e = .returned (.bool R2) ∧ Below VT.heap.size VT w'') := Lib.hid (fun w' hw' => (HR.out.2 ▸ mright HM.out.1 (below_on HMt.out hw') HCK.out HM.out.2.1 HM.out.2.2 TS HTO.out).mono (fun _ _ h => ⟨h.1, below_on hw' h.2⟩))
   have KDR2 : Hid (∀ w', Below VT.heap.size VT w' → Calls Try.prog 20 #[.agg #[.slice L.se.a n1 L.se.c, .slice L.po.a n2 L.po.c, .slice L.sg.a n3 L.sg.c, .slice L.rt.a n4 L.rt.c], .agg (stL TS).toArray] w' fun e w'' => e = .returned (.bool R2) ∧ Below VT.heap.size VT w'') := Lib.hid (fun w' hw' => (DR2.out w' (below_on HBt.out hw')).mono (fun _ _ h => ⟨h.1, below_on hw' h.2⟩))
   have KWO : Hid (∀ w', Below VT.heap.size VT w' → Calls Try.prog 8 #[] w' fun e w'' => e = .returned (.bool true) ∧ Below VT.heap.size VT w'') := Lib.hid (fun w' hw' => (works_is w').mono (fun _ _ h => ⟨h.1, below_on hw' h.2⟩))
   have ez := eq_self TS
   clear DT DR DR2
   go_upto_region 5 with fail
   refine wp_region_calm (by kernel_rfl) ?_ ?_
   ·kernel_rfl
   repeat first
    | go_big_quiet_skip
    | (go_big_quiet_want
       with_reducible refine quiet_load_is (o := ⟨some 19, _, _, _, _, _⟩) 32 _ rfl _ _ ?_ (fun w' hw' => load_st (blk_keep hw' HTt.out)) ?_
       ·rfl
       simp only [Act.put, List.setIfInBounds_toArray, List.set_cons_zero, List.set_cons_succ]
       go_big_quiet_on)
    | (go_big_quiet_want
       with_reducible refine quiet_load_is (o := ⟨some 26, _, _, _, _, _⟩) 32 _ rfl _ _ ?_ (fun w' hw' => load_st (blk_keep hw' HTt.out)) ?_
       ·rfl
       simp only [Act.put, List.setIfInBounds_toArray, List.set_cons_zero, List.set_cons_succ]
       go_big_quiet_on)
    | (go_big_quiet_want
       with_reducible refine quiet_load_is (o := ⟨some 28, _, _, _, _, _⟩) 32 _ rfl _ _ ?_ (fun w' hw' => load_st (blk_keep hw' HTt.out)) ?_
       ·rfl
       simp only [Act.put, List.setIfInBounds_toArray, List.set_cons_zero, List.set_cons_succ]
       go_big_quiet_on)
    | (go_big_quiet_want
       with_reducible refine quiet_load_is (o := ⟨some 42, _, _, _, _, _⟩) 32 _ rfl _ _ ?_ (fun w' hw' => load_st (blk_keep hw' HTt.out)) ?_
       ·rfl
       simp only [Act.put, List.setIfInBounds_toArray, List.set_cons_zero, List.set_cons_succ]
       go_big_quiet_on)
    | (go_big_quiet_want
       with_reducible refine quiet_load_is (o := ⟨some 45, _, _, _, _, _⟩) 32 _ rfl _ _ ?_ (fun w' hw' => load_st (blk_keep hw' HTt.out)) ?_
       ·rfl
       simp only [Act.put, List.setIfInBounds_toArray, List.set_cons_zero, List.set_cons_succ]
       go_big_quiet_on)
    | (go_big_quiet_want
       with_reducible refine quiet_load_is (o := ⟨some 21, _, _, _, _, _⟩) 32 _ rfl _ _ ?_ (fun w' hw' => load_st (blk_keep hw' HSt.out)) ?_
       ·rfl
       simp only [Act.put, List.setIfInBounds_toArray, List.set_cons_zero, List.set_cons_succ]
       go_big_quiet_on)
    | (go_big_quiet_want
       with_reducible refine quiet_load_is (o := ⟨some 33, _, _, _, _, _⟩) 32 _ rfl _ _ ?_ (fun w' hw' => load_st (blk_keep hw' HSt.out)) ?_
       ·rfl
       simp only [Act.put, List.setIfInBounds_toArray, List.set_cons_zero, List.set_cons_succ]
       go_big_quiet_on)
    | (go_big_quiet_want
       with_reducible refine quiet_load_is (o := ⟨some 36, _, _, _, _, _⟩) 32 _ rfl _ _ ?_ (fun w' hw' => load_st (blk_keep hw' HSt.out)) ?_
       ·rfl
       simp only [Act.put, List.setIfInBounds_toArray, List.set_cons_zero, List.set_cons_succ]
       go_big_quiet_on)
    | (go_big_quiet_want
       (first
         | ((with_reducible refine quiet_load_is (o := ⟨some 20, _, _, _, _, _⟩) 27 _ rfl (.pointer (some ⟨gl, 0, none⟩)) (.agg #[.slice L.se.a n1 L.se.c, .slice L.po.a n2 L.po.c, .slice L.sg.a n3 L.sg.c, .slice L.rt.a n4 L.rt.c]) ?_ ?_ ?_); (· rfl); (· intro w' hw'; have l0 := blk_cell (blk_keep hw' HLt.out) 0 _ rfl; have l1 := blk_cell (blk_keep hw' HLt.out) 1 _ rfl; have l2 := blk_cell (blk_keep hw' HLt.out) 2 _ rfl; have l3 := blk_cell (blk_keep hw' HLt.out) 3 _ rfl; go_simp))
         | ((with_reducible refine quiet_load_is (o := ⟨some 35, _, _, _, _, _⟩) 27 _ rfl (.pointer (some ⟨gl, 0, none⟩)) (.agg #[.slice L.se.a n1 L.se.c, .slice L.po.a n2 L.po.c, .slice L.sg.a n3 L.sg.c, .slice L.rt.a n4 L.rt.c]) ?_ ?_ ?_); (· rfl); (· intro w' hw'; have l0 := blk_cell (blk_keep hw' HLt.out) 0 _ rfl; have l1 := blk_cell (blk_keep hw' HLt.out) 1 _ rfl; have l2 := blk_cell (blk_keep hw' HLt.out) 2 _ rfl; have l3 := blk_cell (blk_keep hw' HLt.out) 3 _ rfl; go_simp))
         | ((with_reducible refine quiet_load_is (o := ⟨some 44, _, _, _, _, _⟩) 27 _ rfl (.pointer (some ⟨gl, 0, none⟩)) (.agg #[.slice L.se.a n1 L.se.c, .slice L.po.a n2 L.po.c, .slice L.sg.a n3 L.sg.c, .slice L.rt.a n4 L.rt.c]) ?_ ?_ ?_); (· rfl); (· intro w' hw'; have l0 := blk_cell (blk_keep hw' HLt.out) 0 _ rfl; have l1 := blk_cell (blk_keep hw' HLt.out) 1 _ rfl; have l2 := blk_cell (blk_keep hw' HLt.out) 2 _ rfl; have l3 := blk_cell (blk_keep hw' HLt.out) 3 _ rfl; go_simp)))
       simp only [Act.put, List.setIfInBounds_toArray, List.set_cons_zero, List.set_cons_succ]
       go_big_quiet_on)
    | (go_big_quiet_want; go_big_quiet_op; go_big_quiet_on)
    | (with_reducible apply wpQuiet_step
       intro K hK
       go_simp
       first
        | (refine hK _ ?_; clear hK K)
        | (apply Exists.intro
           refine ⟨fun w' hw' => ?_, hK _ ?_⟩
           ·
            (first
             | with_reducible exact KDT.out _ hw'
             | with_reducible exact KMT.out _ hw'
             | with_reducible exact KMR.out _ hw'
             | with_reducible exact KDR.out _ hw'
             | with_reducible exact KMR2.out _ hw'
             | with_reducible exact KDR2.out _ hw'
             | with_reducible exact KWO.out _ hw'
             | (skip
                go_simp
                first | done | with_reducible exact rfl | with_reducible exact ⟨rfl, rfl⟩ | with_reducible exact KDT.out _ hw' | with_reducible exact KMT.out _ hw' | with_reducible exact KMR.out _ hw' | with_reducible exact KDR.out _ hw' | with_reducible exact KMR2.out _ hw' | with_reducible exact KDR2.out _ hw' | with_reducible exact KWO.out _ hw'))
           clear hK K))
   refine wpQuiet_nil ?_
   intro w7 hw7
   have HB7 := Lib.hid (below_on HBt.out hw7)
   clear hw7
   go_wp2_with fail
   go_ret
   exact ⟨rfl, HB7.out⟩
end Go.Proofs.Ytjienmjpfklgeaa
