/-
 Layer 10: Right.
-/
import Derived.Test.YtjienmjpfklgeaaIxJ
namespace Go.Proofs.Ytjienmjpfklgeaa
open Go.RowKit
set_option maxRecDepth 100000
theorem quiet_load_is {P : Program} {C : World → Prop} {o : Oper} {a : Act} {K : Act → Prop} (ty : TypeId) (x : Operand) (ho : o.op = .load ty x) (vx v : Value) (hx : a.eval x = vx) (hr : ∀ w, C w → (Instr.loadAt ty vx).run P w = .ok v w) (h : K (a.put o.dst v)) : o.quiet P a C K :=
 ⟨v, fun w hw => by unfold Oper.quietAt execOp; simp only [ho, hx, Sem.run_bind, hr w hw, Result.andThen_ok, Sem.run_pure]; exact ⟨rfl, rfl⟩, h⟩
theorem rel_load_is {P : Program} {w : World} {F : Value → World → Prop} {r : Operand → Value} {o : Oper} (ty : TypeId) (x : Operand) (ho : o.op = .load ty x) (vx v : Value) (hx : r x = vx) (hr : (Instr.loadAt ty vx).run P w = .ok v w) (h : F v w) : relUpon P w F ((execOp r o).run P w) := by
 unfold execOp; simp only [ho, hx, Sem.run_bind, hr, Result.andThen_ok, Sem.run_pure]; exact ⟨Below.refl _ _, h⟩
theorem right_zero (T : Tb) (s : St) : rightK T s 0 = true := rfl
theorem right_succ {T : Tb} {s : St} {k : Nat} {x : Rw} (h : T.rw[k]? = some x) : rightK T s (k + 1) = (rightK T s k && lnOk s k x) := by
 show (rightK T s k && ((T.rw[k]?).map (lnOk s k)).getD true) = _
 rw [h]; rfl
theorem right_less {T : Tb} {s : St} {k : Nat} (h : rightK T s k = false) : ∀ n, k ≤ n → rightK T s n = false := by
 intro n hn
 obtain ⟨d, rfl⟩ : ∃ d, n = k + d := ⟨n - k, by omega⟩
 clear hn
 induction d with
 | zero => exact h
 | succ d ih => show (rightK T s (k + d) && _) = false; rw [ih]; rfl
theorem ln_is (s : St) (n : Nat) (x : Rw) : lnOk s n x = (!hasBit s.lk n || (!x.cf.any (fun k => hasBit s.lk k.toNat) && !x.nd.any (fun m => hasBit s.pt m.1.toNat != m.2))) := rfl
attribute [local irreducible] Sl.v hasBit pw withBit woBit cyL stL stV tmL freeS ndBad maySet ptL setS mayCan canS canD nedS flipB mayMov movS comG relS rouS proS tidyS comsG rousS prosS nextG outS lnOk rightK rgtS eqS Mc.tb upd mayS checkS sideN

set_option maxHeartbeats 8000000 in
theorem mright_nil (s : St) (w : World) :
 Calls Try.prog 18 #[.pointer none, .agg (stL s).toArray] w fun e w' => e = .returned (.bool false) ∧ Below w.heap.size w w' := by
 go_enter Try.func18, Try.ntmps18
 go_upto_region 1 with fail
 have hbn := below1 w (.cells (stL s).toArray 32)
 have hqn := alloc1 w (.cells (stL s).toArray 32) (Below.refl _ _)
 obtain ⟨V, hV⟩ : ∃ V, V = w.alloc (.cells (stL s).toArray 32) := ⟨_, rfl⟩
 rw [← hV] at hbn hqn ⊢
 obtain ⟨g3, hg3⟩ : ∃ g, g = w.heap.size := ⟨_, rfl⟩
 rw [← hg3] at hqn ⊢
 have HB0 := Lib.hid hbn
 have HQ3 := Lib.hid hqn
 clear hbn hqn hV hg3
 go_quiet (fail)
 go_wp2_with fail
 go_ret
 exact ⟨rfl, below_drewN HB0.out _⟩
set_option maxHeartbeats 8000000 in
theorem mright_is (X : Nat → Prop) (m : Nat) (M : Mc) (s : St) (w : World) (hM : MachX X w m M) (hT : TbOk M.tb) (hp : M.pt = pw M.li.l.length - 1) (hs : s.ok) :
 Calls Try.prog 18 #[.pointer (some ⟨m, 0, none⟩), .agg (stL s).toArray] w fun e w' => e = .returned (.bool (rgtS M.tb s)) ∧ Below w.heap.size w w' := by
 obtain ⟨N1, hN1⟩ : ∃ k, M.ln.l.length = k := ⟨_, rfl⟩
 have hle : N1 ≤ 64 := by have := hT.rn; rw [tb_len, hN1] at this; exact this
 have hpn := hT.pn
 rw [tb_li] at hpn
 obtain ⟨D, hD⟩ : ∃ b, eqS (tidyS N1 M.li.l.length s) s = b := ⟨_, rfl⟩
 have HR : Hid (rgtS M.tb s = (D && rightK M.tb s N1)) := Lib.hid (by rw [← hD]; unfold rgtS; rw [tb_len, tb_li, hN1])
 obtain ⟨TS, hTS⟩ : ∃ t, tidyS N1 M.li.l.length s = t := ⟨_, rfl⟩
 have HTD : Hid (∀ V, Below w.heap.size w V → Calls Try.prog 17 #[.pointer (some ⟨m, 0, none⟩), .agg (stL s).toArray] V fun e w' => e = .returned (.agg (stL TS).toArray) ∧ Below V.heap.size V w') := Lib.hid (fun V hV => hTS ▸ tidy_is X m M s N1 M.li.l.length V (hM.step (WX.of_below hV)) hN1 hle hp hpn hs)
 have xn : ∀ w : World, (binOp .neq 32 (.agg (stL TS).toArray) (.agg (stL s).toArray)).run Try.prog w = .ok (.bool (!D)) w := fun w => by
  have h := neq_st TS s w
  rw [← hTS, hD, hTS] at h
  unfold stV at h
  exact h
 have HM := Lib.hid hM
 have HSO := Lib.hid hs
 have HLE := Lib.hid hle
 have HN1 := Lib.hid hN1
 have HOKL : Hid (∀ (k : Nat) (x : Ln), M.ln.l[k]? = some x → RwOk M.ln.l.length M.li.l.length x.rw) := Lib.hid (fun k x hx => ln_ok hT hx)
 have HPN := Lib.hid hpn
 rw [HR.out]
 clear hM hT hp hs hle hN1 hpn hD hTS HR
 go_enter Try.func18, Try.ntmps18
 go_upto_region 1 with fail
 have hbn := below1 w (.cells (stL s).toArray 32)
 have hqn := alloc1 w (.cells (stL s).toArray 32) (Below.refl _ _)
 obtain ⟨V, hV⟩ : ∃ V, V = w.alloc (.cells (stL s).toArray 32) := ⟨_, rfl⟩
 rw [← hV] at hbn hqn ⊢
 obtain ⟨g3, hg3⟩ : ∃ g, g = w.heap.size := ⟨_, rfl⟩
 rw [← hg3] at hqn ⊢
 have HB0 := Lib.hid hbn
 have HQ3 := Lib.hid hqn
 clear hbn hqn hV hg3
 have KTD : Hid (∀ w', Below V.heap.size V w' → Calls Try.prog 17 #[.pointer (some ⟨m, 0, none⟩), .agg (stL s).toArray] w' fun e w'' => e = .returned (.agg (stL TS).toArray) ∧ Below V.heap.size V w'') := Lib.hid (fun w' hw' => (HTD.out w' (below_on HB0.out hw')).mono (fun _ _ h => ⟨h.1, below_on hw' h.2⟩))
 refine wp_region_calm (by kernel_rfl) ?_ ?_
 ·kernel_rfl
 repeat first
  | go_big_quiet_skip
  | (go_big_quiet_want
     refine quiet_load_is (o := ⟨some 11, _, _, _, _, _⟩) 32 _ rfl _ _ rfl (fun w' hw' => load_st (blk_keep hw' HQ3.out)) ?_
     simp only [Act.put, List.setIfInBounds_toArray, List.set_cons_zero, List.set_cons_succ]
     go_big_quiet_on)
  | (go_big_quiet_want
     refine quiet_load_is (o := ⟨some 13, _, _, _, _, _⟩) 32 _ rfl _ _ rfl (fun w' hw' => load_st (blk_keep hw' HQ3.out)) ?_
     simp only [Act.put, List.setIfInBounds_toArray, List.set_cons_zero, List.set_cons_succ]
     go_big_quiet_on)
  | (go_big_quiet_want; go_big_quiet_op; go_big_quiet_on)
  | (with_reducible apply wpQuiet_step
     intro K hK
     go_simp
     first
      | (refine hK _ ?_; clear hK K)
      | (apply Exists.intro
         refine ⟨fun w' hw' => ?_, hK _ ?_⟩
         ·
          (first
           | with_reducible exact KTD.out _ hw'
           | (have g0 := load_st (blk_keep hw' HQ3.out)
              go_simp
              first | done | with_reducible exact rfl | with_reducible exact ⟨rfl, rfl⟩ | with_reducible exact KTD.out _ hw'))
         clear hK K))
 refine wpQuiet_nil ?_
 intro w7 hw7
 have HB7 := Lib.hid (below_on HB0.out hw7)
 have HB7X := Lib.hid hw7
 clear hw7
 have HQ7 := Lib.hid (blk_keep HB7X.out HQ3.out)
 clear KTD HTD xn HQ3 HB7X HB0
 cases D with
 | false =>
   go_wp2_with fail
   go_ret
   exact ⟨rfl, HB7.out⟩
 | true =>
   have hm7 := HM.out.step (WX.of_below (X := X) HB7.out)
   have HM7 := Lib.hid hm7
   have cm0 := blk_cell hm7.blk 0 _ rfl
   rw [slv HN1.out] at cm0
   clear hm7 HM
   go_upto_region 4 with fail
   clear cm0
   go_loopg [21] N1 (fun g9 v wr => ∃ k : Nat, k + g9 = N1 ∧ v = .int .i64 (k : Int) ∧ rightK M.tb s k = true ∧ Below w7.heap.size w7 wr)
   case atStart => exact ⟨0, by omega, rfl, right_zero _ _, Below.refl _ _⟩
   case round =>
    obtain ⟨k, hk, rfl, hnn, hbw⟩ := hrel
    have HK := Lib.hid hk
    have HNK := Lib.hid hnn
    have HB := Lib.hid hbw
    clear hk hnn hbw
    by_cases hlt : k < N1
    ·have d1 : (0 : Int) ≤ k := by omega
     have d2 : (k : Int) < N1 := by omega
     have e1 := k_succ hlt (Nat.le_trans HLE.out (by decide))
     have HLT := Lib.hid hlt
     obtain ⟨x, hx⟩ : ∃ x, M.ln.l[k]? = some x := ⟨_, List.getElem?_eq_getElem (by rw [HN1.out]; exact hlt)⟩
     obtain ⟨X9, hX⟩ : ∃ a, M.ln.a = a := ⟨_, rfl⟩
     have HXX := Lib.hid hX
     have HMR := Lib.hid (HM7.out.step (WX.of_below (X := X) HB.out))
     have hok1 := HOKL.out k x hx
     have hlrow := HMR.out.ln.at_.row
     rw [hX] at hlrow ⊢
     rcases hlrow with hnil | ⟨lb, lo, hlb, hlc⟩
     ·rw [hnil] at hx; cases hx
     subst hlb
     have HLC := Lib.hid hlc
     have hz := HLC.out k x hx
     have z0 := hz 0 _ rfl
     have z1 := hz 1 _ rfl
     have z2 := hz 2 _ rfl
     have z3 := hz 3 _ rfl
     have z4 := hz 4 _ rfl
     rw [Nat.add_zero] at z0
     obtain ⟨t1, ht1⟩ : ∃ k, x.tk.l.length = k := ⟨_, rfl⟩
     obtain ⟨t2, ht2⟩ : ∃ k, x.nd.l.length = k := ⟨_, rfl⟩
     obtain ⟨t3, ht3⟩ : ∃ k, x.cf.l.length = k := ⟨_, rfl⟩
     rw [slv ht1] at z2
     rw [slv ht2] at z3
     rw [slv ht3] at z4
     clear hz
     obtain ⟨bl, hbl⟩ : ∃ b, hasBit s.lk k = b := ⟨_, rfl⟩
     obtain ⟨bc, hbc⟩ : ∃ b, x.cf.l.any (fun k => hasBit s.lk k.toNat) = b := ⟨_, rfl⟩
     obtain ⟨bn, hbn9⟩ : ∃ b, x.nd.l.any (fun m => hasBit s.pt m.1.toNat != m.2) = b := ⟨_, rfl⟩
     have HNS : Hid (rightK M.tb s (k + 1) = (!bl || (!bc && !bn))) := Lib.hid (by rw [right_succ (tb_at hx), HNK.out, ln_is, hbl]; show (true && (!bl || (!x.cf.l.any _ && !x.nd.l.any _))) = _; rw [hbc, hbn9]; rfl)
     have HK63 : Hid (k ≤ 63) := Lib.hid (by have := HLE.out; omega)
     have HIN : Hid (∀ V, Calls Try.prog 38 #[.int .u64 (s.lk : Int), .int .i64 (k : Int)] V fun e w' => e = .returned (.bool bl) ∧ V = w') := Lib.hid (fun V => in_is bl s.lk k V HK63.out HSO.out.lk hbl)
     have hlx := HMR.out.lns x (List.mem_of_getElem? hx)
     have hcm := hlx.cf.at_
     have hnm := hlx.nd.at_
     have HCF : Hid (∀ V, Below wr.heap.size wr V → Calls Try.prog 39 #[.slice x.cf.a t3 x.cf.c, .func (.func 40) #[] #[.pointer (some ⟨g3, 0, none⟩)]] V fun e w' => e = .returned (.bool bc) ∧ Below V.heap.size V w') :=
      Lib.hid (fun V hV => conf_rgc bc g3 (fun k => hasBit s.lk k.toNat) x.cf.a t3 x.cf.c x.cf.l V hbc ht3 (by rw [← ht3]; exact hcm.lenM) (hcm.row.below hV) (fun U hU y hy => cl_rgc g3 s HSO.out y (by have h := hok1.cf y hy; have h2 := HN1.out; have h3 := HLE.out; omega) U (blk_keep (below_on (below_on HB.out hV) hU) HQ7.out)))
     have HND : Hid (∀ V, Below wr.heap.size wr V → Calls Try.prog 41 #[.slice x.nd.a t2 x.nd.c, .func (.func 42) #[] #[.pointer (some ⟨g3, 0, none⟩)]] V fun e w' => e = .returned (.bool bn) ∧ Below V.heap.size V w') :=
      Lib.hid (fun V hV => conf_rgn bn g3 (fun m => hasBit s.pt m.1.toNat != m.2) x.nd.a t2 x.nd.c x.nd.l V hbn9 ht2 (by rw [← ht2]; exact hnm.lenM) (hnm.row.below hV) (fun U hU y hy => cl_rgn g3 s HSO.out y (by have h := hok1.nd y hy; have h2 := HPN.out; omega) U (blk_keep (below_on (below_on HB.out hV) hU) HQ7.out)))
     clear hlc hX hx hlt hbl ht1 ht2 ht3 hbc hbn9 HLC hlx hcm hnm hok1
     go_upto_region 6 with fail
     have hbn := below1 wr (.cells #[.int .i64 x.fi, .int .i64 x.ah, .slice x.tk.a t1 x.tk.c, .slice x.nd.a t2 x.nd.c, .slice x.cf.a t3 x.cf.c] 91)
     have hqn := alloc1 wr (.cells #[.int .i64 x.fi, .int .i64 x.ah, .slice x.tk.a t1 x.tk.c, .slice x.nd.a t2 x.nd.c, .slice x.cf.a t3 x.cf.c] 91) (Below.refl _ _)
     obtain ⟨V9, hV9⟩ : ∃ V, V = wr.alloc (.cells #[.int .i64 x.fi, .int .i64 x.ah, .slice x.tk.a t1 x.tk.c, .slice x.nd.a t2 x.nd.c, .slice x.cf.a t3 x.cf.c] 91) := ⟨_, rfl⟩
     rw [← hV9] at hbn hqn ⊢
     obtain ⟨g9, hg9⟩ : ∃ g, g = wr.heap.size := ⟨_, rfl⟩
     rw [← hg9] at hqn ⊢
     have HB9 := Lib.hid hbn
     have HQ9 := Lib.hid hqn
     have y0 := blk_cell (blk_keep (below_on HB.out hbn) HQ7.out) 0 _ (st_0 s)
     clear hbn hqn hV9 hg9 z0 z1 z2 z3 z4
     go_wp2_with fail
     refine (HIN.out _).mono ?_
     rintro e w' ⟨rfl, rfl⟩
     clear y0
     cases bl with
     | false =>
       go_wp2_with fail
       rw [← HXX.out]
       go_roundg (N1 - (k + 1))
       case rel => exact ⟨k + 1, k_next HK.out HLT.out, by go_num, HNS.out, below_on HB.out HB9.out⟩
       case measure => exact k_less HK.out HLT.out
     | true =>
       have c4 := blk_cell HQ9.out 4 _ rfl
       go_wp2_with fail
       refine (HCF.out _ HB9.out).mono ?_
       rintro e w8 ⟨rfl, hb⟩
       have HB8 := Lib.hid (below_on HB9.out hb)
       have HQ8 := Lib.hid (blk_keep hb HQ9.out)
       clear hb c4 HCF
       cases bc with
       | true =>
         go_wp2_with fail
         go_ret
         exact ⟨by rw [right_less HNS.out N1 HLT.out]; rfl, below_on HB7.out (below_on HB.out HB8.out)⟩
       | false =>
         have c3 := blk_cell HQ8.out 3 _ rfl
         go_wp2_with fail
         refine (HND.out _ HB8.out).mono ?_
         rintro e w9 ⟨rfl, hb⟩
         have HBE := Lib.hid (below_on HB.out (below_on HB8.out hb))
         clear hb c3
         cases bn with
         | false =>
           go_wp2_with fail
           rw [← HXX.out]
           go_roundg (N1 - (k + 1))
           case rel => exact ⟨k + 1, k_next HK.out HLT.out, by go_num, HNS.out, HBE.out⟩
           case measure => exact k_less HK.out HLT.out
         | true =>
           go_wp2_with fail
           go_ret
           exact ⟨by rw [right_less HNS.out N1 HLT.out]; rfl, below_on HB7.out HBE.out⟩
    ·have d2 : ¬ (k : Int) < N1 := by omega
     have HNN : Hid (rightK M.tb s N1 = true) := Lib.hid (by rw [show N1 = k by have := HK.out; omega]; exact HNK.out)
     clear hlt
     go_wp2_with fail
     go_ret
     exact ⟨by rw [HNN.out]; rfl, below_on HB7.out HB.out⟩
end Go.Proofs.Ytjienmjpfklgeaa
