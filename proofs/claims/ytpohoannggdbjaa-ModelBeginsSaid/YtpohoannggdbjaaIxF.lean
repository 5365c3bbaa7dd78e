/-
 Layer 10: bits of 32; move.
-/
import Derived.Test.YtpohoannggdbjaaIxE
namespace Go.Proofs.Ytpohoannggdbjaa
open Go.RowKit
set_option maxRecDepth 100000
theorem shl32 {p : Nat} (h : p ≤ 31) : IntKind.u32.wrap ((2 : Int) ^ p) = ((pw p : Nat) : Int) := by
 have h1 : pw p ≤ pw 31 := Nat.pow_le_pow_right (by omega) h
 have h2 : pw 31 = 2147483648 := by decide
 have h3 : ((2 : Int) ^ p) = ((pw p : Nat) : Int) := by rw [pw_eq]; simp
 rw [h3, IntKind.wrap_u32]; omega
theorem pw_lt32 {n : Nat} (h : n ≤ 31) : pw n < 4294967296 := Nat.pow_lt_pow_right (n := 32) (by omega) (by omega)
theorem or_step32 {s n : Nat} (hn : n ≤ 31) (hs : s < 4294967296) : bits .or .u32 (s : Int) ((pw n : Nat) : Int) = ((withBit s n : Nat) : Int) := by
 rw [u32_or_nat s (pw n) hs (pw_lt32 hn), withBit_or]
theorem withBit_lt32 {s n : Nat} (hn : n ≤ 31) (hs : s < 4294967296) : withBit s n < 4294967296 := by
 rw [withBit_or]; exact Nat.or_lt_two_pow (n := 32) hs (pw_lt32 hn)
theorem wo_step32 {s n : Nat} (hn : n ≤ 31) (hs : s < 4294967296) : bits .andNot .u32 (s : Int) ((pw n : Nat) : Int) = ((woBit s n : Nat) : Int) := by
 have hp := pw_lt32 hn
 rw [u32_andNot_nat s (pw n) hs hp, ← woBit_and s n (by omega) (by omega)]
 congr 1
 refine Nat.eq_of_testBit_eq fun i => ?_
 rw [Nat.testBit_and, Nat.testBit_and, all_test n i (by omega), show 4294967295 - pw n = 2 ^ 32 - (pw n + 1) by omega, Nat.testBit_two_pow_sub_succ hp, pw, Nat.testBit_two_pow]
 rcases Nat.lt_or_ge i 32 with h | h
 ·simp [h, show i < 64 by omega]
 ·rw [Nat.testBit_lt_two_pow (Nat.lt_of_lt_of_le hs (Nat.pow_le_pow_right (n := 2) (by omega) h))]; rfl
theorem woBit_lt32 {s n : Nat} (hs : s < 4294967296) : woBit s n < 4294967296 := Nat.lt_of_le_of_lt (woBit_le s n) hs
theorem xor_step32 {s n : Nat} (hn : n ≤ 31) (hs : s < 4294967296) : bits .xor .u32 (s : Int) ((pw n : Nat) : Int) = ((flipB s n : Nat) : Int) := by
 rw [u32_xor_nat s (pw n) hs (pw_lt32 hn)]; rfl
theorem flipB_lt32 {s n : Nat} (hn : n ≤ 31) (hs : s < 4294967296) : flipB s n < 4294967296 := Nat.xor_lt_two_pow (n := 32) hs (pw_lt32 hn)
theorem tb_li (M : Mc) : M.tb.li = M.li.l := rfl
theorem ned_zero (T : Tb) (s : St) (p : Nat) : nedS T s p 0 = false := rfl
theorem ned_succ {T : Tb} {s : St} {p k : Nat} {x : Rw} (h : T.rw[k]? = some x) : nedS T s p (k + 1) = (nedS T s p k || (hasBit s.lk k && x.nd.any (fun n => n.1 == (p : Int)))) := by
 show (nedS T s p k || (hasBit s.lk k && ((T.rw[k]?).map (fun x => x.nd.any (fun n => n.1 == (p : Int)))).getD false)) = _
 rw [h]; rfl
theorem ned_more {T : Tb} {s : St} {p k : Nat} (h : nedS T s p k = true) : ∀ n, k ≤ n → nedS T s p n = true := by
 intro n hn
 obtain ⟨d, rfl⟩ : ∃ d, n = k + d := ⟨n - k, by omega⟩
 clear hn
 induction d with
 | zero => exact h
 | succ d ih => show (nedS T s p (k + d) || _) = true; rw [ih]; rfl
theorem mov_no {T : Tb} {s : St} {oc p : Nat} (h : mayMov T s oc p = false) : movS T s oc p = s := by unfold movS; rw [h]; rfl
theorem mov_yes {T : Tb} {s : St} {oc p : Nat} (h : mayMov T s oc p = true) : movS T s oc p = { s with pt := flipB s.pt p } := by unfold movS; rw [h]; rfl
theorem may_mov (T : Tb) (s : St) (oc p : Nat) : mayMov T s oc p = (!hasBit oc (T.li.getD p 0).toNat && !nedS T s p T.rw.length) := rfl
attribute [local irreducible] Sl.v hasBit pw withBit woBit cyL stL stV tmL freeS ndBad maySet ptL setS mayCan canS canD nedS flipB mayMov movS comG relS rouS proS tidyS comsG rousS prosS nextG outS lnOk rightK rgtS eqS Mc.tb upd mayS checkS sideN
set_option maxHeartbeats 8000000 in
theorem move_is (g m u : Nat) (M : Mc) (s : St) (i : Inp) (w : World) (hC : Cy w g m M s i u) (p : Nat) (hp : p < M.li.l.length) :
 Calls Try.prog 35 #[.pointer (some ⟨g, 0, none⟩), .int .i64 (p : Int)] w fun e w' => e = .returned (.tuple #[]) ∧ Cy w' g m M (movS M.tb s i.oc p) i u ∧ Below g w w' := by
 have hp31 : p ≤ 31 := by have h := hC.tb.pn; rw [tb_li] at h; omega
 obtain ⟨sec, hsec⟩ : ∃ c, M.li.l[p]? = some c := ⟨_, List.getElem?_eq_getElem hp⟩
 have hsb := hC.tb.li sec (by rw [tb_li]; exact List.mem_of_getElem? hsec)
 have hget : M.tb.li.getD p 0 = sec := by rw [tb_li, List.getD_eq_getElem?_getD, hsec]; rfl
 obtain ⟨bo, hbo⟩ : ∃ b, hasBit i.oc sec.toNat = b := ⟨_, rfl⟩
 obtain ⟨T, hT⟩ : ∃ T, movS M.tb s i.oc p = T := ⟨_, rfl⟩
 have HNO1 : Hid (bo = true → T = s) := Lib.hid (fun h => by rw [← hT]; exact mov_no (by rw [may_mov, hget, hbo, h]; rfl))
 have HNO2 : Hid (nedS M.tb s p M.ln.l.length = true → T = s) := Lib.hid (fun h => by rw [← hT]; exact mov_no (by rw [may_mov, tb_len, h]; cases hasBit i.oc (M.tb.li.getD p 0).toNat <;> rfl))
 have HYES : Hid ((!bo && !nedS M.tb s p M.ln.l.length) = true → T = { s with pt := flipB s.pt p }) := Lib.hid (fun h => by rw [← hT]; exact mov_yes (by rw [may_mov, hget, hbo, tb_len]; exact h))
 have hs := hC.sok
 have HXO : Hid (bits .xor .u32 (s.pt : Int) ((pw p : Nat) : Int) = ((flipB s.pt p : Nat) : Int)) := Lib.hid (xor_step32 hp31 hs.pt)
 have HOK1 : Hid (St.ok { s with pt := flipB s.pt p }) := Lib.hid ⟨hs.lk, hs.us, hs.ca, hs.tm, flipB_lt32 hp31 hs.pt⟩
 have HP31 := Lib.hid hp31
 have HLE : Hid (M.ln.l.length ≤ 64) := Lib.hid (by have := hC.tb.rn; rw [tb_len] at this; exact this)
 rw [hT]
 clear hT hs hp31 hget
 obtain ⟨N2, hN2⟩ : ∃ k, M.li.l.length = k := ⟨_, rfl⟩
 have cm1 := blk_cell hC.mach.blk 1 _ rfl
 rw [slv hN2] at cm1
 obtain ⟨IC, hIC⟩ : ∃ c, M.li.c = c := ⟨_, rfl⟩
 obtain ⟨IA, hIA⟩ : ∃ a, M.li.a = a := ⟨_, rfl⟩
 have hirow := hC.mach.li.at_.row
 rw [hIA] at hirow
 rw [hIA, hIC] at cm1
 rcases hirow with hnil | ⟨ib, io, hib, hic⟩
 ·rw [hnil] at hsec; cases hsec
 rw [hib] at cm1
 have y0 := hic p sec hsec 0 _ rfl
 rw [Nat.mul_one, Nat.add_zero] at y0
 have HPL : Hid ((0 : Int) ≤ p ∧ (p : Int) < N2) := Lib.hid (by omega)
 have HC := Lib.hid hC
 have HY := Lib.hid y0
 have HM := Lib.hid cm1
 have HSB := Lib.hid hsb
 have HBO := Lib.hid hbo
 clear hC y0 cm1 hic hib hIA hIC hN2 hsb hbo hsec hp
 go_enter Try.func35, Try.ntmps35
 go_upto_region 1 with fail
 have hbn := below1 w (.cells #[.int .i64 (p : Int)] 3)
 have hqn := alloc1 w (.cells #[.int .i64 (p : Int)] 3) (Below.refl _ _)
 obtain ⟨V, hV⟩ : ∃ V, V = w.alloc (.cells #[.int .i64 (p : Int)] 3) := ⟨_, rfl⟩
 rw [← hV] at hbn hqn ⊢
 obtain ⟨gp, hgp⟩ : ∃ g, g = w.heap.size := ⟨_, rfl⟩
 rw [← hgp] at hqn ⊢
 have HBV0 := Lib.hid hbn
 have HQP := Lib.hid hqn
 have HCV0 := Lib.hid (HC.out.below hbn)
 have HBG := Lib.hid (below_g hbn HC.out.gle)
 have HM1 := Lib.hid (cell_later hbn HM.out)
 have HY0 := Lib.hid (cell_later hbn HY.out)
 have KCL : Hid (∀ w', Below V.heap.size V w' → Calls Try.prog 37 #[.pointer (some ⟨g, 0, none⟩), .int .i64 sec] w' fun e w'' => e = .returned (.bool (!bo)) ∧ Below V.heap.size V w'') := Lib.hid (fun w' hw' => (clear_is bo g m u M s i w' (HCV0.out.below hw') sec HSB.out HBO.out).mono (fun _ _ h => ⟨h.1, below_on hw' h.2⟩))
 clear hbn hqn hV hgp HM HY
 have d1 := HPL.out.1
 have d2 := HPL.out.2
 refine wp_region_calm (by kernel_rfl) ?_ ?_
 ·kernel_rfl
 repeat first
  | go_big_quiet_skip
  | (go_big_quiet_want; go_big_quiet_op; go_big_quiet_on)
  | (with_reducible apply wpQuiet_step
     intro K hK
     go_simp
     first
      | (refine hK _ ?_; clear hK K)
      | (apply Exists.intro
         refine ⟨fun w' hw' => ?_, hK _ ?_⟩
         ·
          (first
           | with_reducible exact KCL.out _ hw'
           | (have g0 := blk_cell (HCV0.out.below hw').blk 0 _ (cy_0 _ _ _ _)
              go_simp
              first | done | with_reducible exact rfl | with_reducible exact ⟨rfl, rfl⟩ | with_reducible exact KCL.out _ hw')
           | (have g1 := cell_later hw' HM1.out
              go_simp
              first | done | with_reducible exact rfl | with_reducible exact ⟨rfl, rfl⟩ | with_reducible exact KCL.out _ hw')
           | (have g2 := blk_cell (blk_keep hw' HQP.out) 0 _ rfl
              go_simp
              first | done | with_reducible exact rfl | with_reducible exact ⟨rfl, rfl⟩ | with_reducible exact KCL.out _ hw')
           | (have g3 := cell_later hw' HY0.out
              go_simp
              first | done | with_reducible exact rfl | with_reducible exact ⟨rfl, rfl⟩ | with_reducible exact KCL.out _ hw'))
         clear hK K))
 refine wpQuiet_nil ?_
 intro w7 hw7
 have HB7 := Lib.hid (below_on HBV0.out hw7)
 have HB7X := Lib.hid hw7
 clear hw7
 clear d1 d2
 have HC0 := Lib.hid (HCV0.out.below (HB7X.out))
 have HQP0 := Lib.hid (blk_keep HB7X.out HQP.out)
 have HB00 := Lib.hid (below_tr HBG.out (below_g HB7X.out HCV0.out.gle))
 clear HCV0 HQP HBG HB7 HB7X KCL HM1 HY0 HPL
 cases bo with
 | true =>
   go_wp2_with fail
   (try simp only [Exit.inBlock, Exit.then])
   refine bodyPost_ret (results_none rfl _ _ _) rfl ?_
   exact ⟨rfl, HNO1.out (by simp) ▸ HC0.out, HB00.out⟩
 | false =>
   have hc0 := HC0.out
   obtain ⟨N1, hN1⟩ : ∃ k, M.ln.l.length = k := ⟨_, rfl⟩
   have cm0 := blk_cell hc0.mach.blk 0 _ rfl
   rw [slv hN1] at cm0
   have l0 := blk_cell hc0.blk 0 _ (cy_0 _ _ _ _)
   rw [hN1] at HNO2 HYES HLE
   have HN1 := Lib.hid hN1
   clear hN1 hc0 HNO1
   go_upto_region 3 with fail
   clear cm0 l0
   go_loopg [27] N1 (fun g9 v wr => ∃ k : Nat, k + g9 = N1 ∧ v = .int .i64 (k : Int) ∧ nedS M.tb s p k = false ∧ Below w7.heap.size w7 wr)
   case atStart => exact ⟨0, by omega, rfl, ned_zero _ _ _, Below.refl _ _⟩
   case round =>
    obtain ⟨k, hk, rfl, hnn, hbw⟩ := hrel
    have HK := Lib.hid hk
    have HNK := Lib.hid hnn
    have HB := Lib.hid hbw
    clear hk hnn hbw
    by_cases hlt : k < N1
    ·have d1 : (0 : Int) ≤ k := by omega
     have d2 : (k : Int) < N1 := by omega
     have e1 := k_succ hlt (Nat.le_trans HLE.out (by decide))
     have HLT := Lib.hid hlt
     obtain ⟨x, hx⟩ : ∃ x, M.ln.l[k]? = some x := ⟨_, List.getElem?_eq_getElem (by rw [HN1.out]; exact hlt)⟩
     obtain ⟨X, hX⟩ : ∃ a, M.ln.a = a := ⟨_, rfl⟩
     have HXX := Lib.hid hX
     have HCR := Lib.hid (HC0.out.below HB.out)
     have hlrow := HCR.out.mach.ln.at_.row
     rw [hX] at hlrow ⊢
     rcases hlrow with hnil | ⟨lb, lo, hlb, hlc⟩
     ·rw [hnil] at hx; cases hx
     subst hlb
     have HLC := Lib.hid hlc
     have hz := HLC.out k x hx
     have z0 := hz 0 _ rfl
     have z1 := hz 1 _ rfl
     have z2 := hz 2 _ rfl
     have z3 := hz 3 _ rfl
     have z4 := hz 4 _ rfl
     rw [Nat.add_zero] at z0
     obtain ⟨t1, ht1⟩ : ∃ k, x.tk.l.length = k := ⟨_, rfl⟩
     obtain ⟨t2, ht2⟩ : ∃ k, x.nd.l.length = k := ⟨_, rfl⟩
     obtain ⟨t3, ht3⟩ : ∃ k, x.cf.l.length = k := ⟨_, rfl⟩
     rw [slv ht1] at z2
     rw [slv ht2] at z3
     rw [slv ht3] at z4
     clear hz
     obtain ⟨bl, hbl⟩ : ∃ b, hasBit s.lk k = b := ⟨_, rfl⟩
     obtain ⟨bm, hbm⟩ : ∃ b, x.nd.l.any (fun n => n.1 == (p : Int)) = b := ⟨_, rfl⟩
     have HNS : Hid (nedS M.tb s p (k + 1) = (bl && bm)) := Lib.hid (by rw [ned_succ (tb_at hx), HNK.out, hbl]; show (false || (bl && x.nd.l.any _)) = _; rw [hbm]; rfl)
     have HK63 : Hid (k ≤ 63) := Lib.hid (by have := HLE.out; omega)
     have HLKK : Hid (∀ V, Below wr.heap.size wr V → Calls Try.prog 19 #[.pointer (some ⟨g, 0, none⟩), .int .i64 (k : Int)] V fun e w' => e = .returned (.bool bl) ∧ Below V.heap.size V w') := Lib.hid (fun V hV => locked_is bl g m u M s i V (HCR.out.below hV) k HK63.out hbl)
     have htm := (HCR.out.mach.lns x (List.mem_of_getElem? hx)).nd.at_
     have HMV : Hid (∀ V, Below wr.heap.size wr V → Calls Try.prog 39 #[.slice x.nd.a t2 x.nd.c, .func (.func 57) #[] #[.pointer (some ⟨gp, 0, none⟩)]] V fun e w' => e = .returned (.bool bm) ∧ Below V.heap.size V w') :=
      Lib.hid (fun V hV => conf_move bm gp (fun n => n.1 == (p : Int)) x.nd.a t2 x.nd.c x.nd.l V hbm ht2 (by rw [← ht2]; exact htm.lenM) (htm.row.below hV) (fun U hU y _ => cl_move gp p y U (blk_keep (below_on (below_on HB.out hV) hU) HQP0.out)))
     clear hlc hX hx hlt hbl ht1 ht2 ht3 htm HLC hbm
     go_upto_region 5 with fail
     have hbn := below1 wr (.cells #[.int .i64 x.fi, .int .i64 x.ah, .slice x.tk.a t1 x.tk.c, .slice x.nd.a t2 x.nd.c, .slice x.cf.a t3 x.cf.c] 80)
     have hqn := alloc1 wr (.cells #[.int .i64 x.fi, .int .i64 x.ah, .slice x.tk.a t1 x.tk.c, .slice x.nd.a t2 x.nd.c, .slice x.cf.a t3 x.cf.c] 80) (Below.refl _ _)
     obtain ⟨V9, hV9⟩ : ∃ V, V = wr.alloc (.cells #[.int .i64 x.fi, .int .i64 x.ah, .slice x.tk.a t1 x.tk.c, .slice x.nd.a t2 x.nd.c, .slice x.cf.a t3 x.cf.c] 80) := ⟨_, rfl⟩
     rw [← hV9] at hbn hqn ⊢
     obtain ⟨g9, hg9⟩ : ∃ g, g = wr.heap.size := ⟨_, rfl⟩
     rw [← hg9] at hqn ⊢
     have HB9 := Lib.hid hbn
     have HQ9 := Lib.hid hqn
     clear hbn hqn hV9 hg9 z0 z1 z2 z3 z4
     go_wp2_with fail
     refine (HLKK.out _ HB9.out).mono ?_
     rintro e w8 ⟨rfl, hb⟩
     have HB8 := Lib.hid (below_on HB9.out hb)
     have HQ8 := Lib.hid (blk_keep hb HQ9.out)
     clear hb HB9 HQ9
     cases bl with
     | false =>
       go_wp2_with fail
       rw [← HXX.out]
       go_roundg (N1 - (k + 1))
       case rel => exact ⟨k + 1, k_next HK.out HLT.out, by go_num, HNS.out, below_on HB.out HB8.out⟩
       case measure => exact k_less HK.out HLT.out
     | true =>
       have c3 := blk_cell HQ8.out 3 _ rfl
       go_wp2_with fail
       refine (HMV.out _ HB8.out).mono ?_
       rintro e w9 ⟨rfl, hb⟩
       have HBE := Lib.hid (below_on HB.out (below_on HB8.out hb))
       clear hb c3
       cases bm with
       | false =>
         go_wp2_with fail
         rw [← HXX.out]
         go_roundg (N1 - (k + 1))
         case rel => exact ⟨k + 1, k_next HK.out HLT.out, by go_num, HNS.out, HBE.out⟩
         case measure => exact k_less HK.out HLT.out
       | true =>
         go_wp2_with fail
         (try simp only [Exit.inBlock, Exit.then])
         refine bodyPost_ret (results_none rfl _ _ _) rfl ?_
         have hall := ned_more (HNS.out) N1 HLT.out
         exact ⟨rfl, HNO2.out hall ▸ HC0.out.below HBE.out, below_tr HB00.out (below_g HBE.out HC0.out.gle)⟩
    ·have d2 : ¬ (k : Int) < N1 := by omega
     have HNN : Hid (nedS M.tb s p N1 = false) := Lib.hid (by rw [show N1 = k by have := HK.out; omega]; exact HNK.out)
     have HCE := Lib.hid (HC0.out.below HB.out)
     have HQE := Lib.hid (blk_keep HB.out HQP0.out)
     have HBE := Lib.hid (below_tr HB00.out (below_g HB.out HC0.out.gle))
     clear hlt HC0 HQP0 HB00 HB
     obtain ⟨HC0, HQP0, HB00⟩ := And.intro HCE (And.intro HQE HBE)
     clear HCE HQE HBE
     go_upto_region 7 with fail
     refine wp_region_rel (by kernel_rfl) [11] 14 [0, 1, 2, 3, 4, 5, 6, 7, 8, 9, 10] [42, 43, 44, 45, 46, 47, 48, 49, 50, 51, 52] #[true, true, true, true, true, true, true, true, true, true, true, false] 1 [(fun v _ => v = .pointer (some ⟨g, 0, none⟩)), (fun v _ => v = .pointer (some ⟨g, 0, none⟩)), (fun v _ => v = .pointer (some ⟨g, 1, none⟩)), (fun v _ => v = .pointer (some ⟨g, 68, none⟩)), (fun v _ => v = .int .u32 (s.pt : Int)), (fun v _ => v = .int .i64 (p : Int)), (fun v _ => v = .int .u32 ((pw p : Nat) : Int)), (fun v _ => v = .int .u32 ((flipB s.pt p : Nat) : Int)), (fun v _ => v = .pointer (some ⟨g, 0, none⟩)), (fun v _ => v = .pointer (some ⟨g, 1, none⟩)), (fun v _ => v = .pointer (some ⟨g, 68, none⟩)), (fun _ _ => True)] (by kernel_rfl) (by kernel_rfl) (by kernel_rfl) (by kernel_rfl) (by kernel_rfl) rfl (by kernel_rfl) rfl ?_ ?_ ?_
     ·exact ⟨stays_is _, stays_is _, stays_is _, stays_is _, stays_is _, stays_is _, stays_is _, stays_is _, stays_is _, stays_is _, stays_is _, stays_true, trivial⟩
     ·refine ⟨?_, ?_, ?_, ?_, ?_, ?_, ?_, ?_, ?_, ?_, ?_, trivial⟩
      ·refine relOb_mk (o := ⟨some 42, _, _, _, _, _⟩) rfl (fun r V hc hf hg hs hb hd => ?_)
       have x0 : r (.tmp 0) = .pointer (some ⟨g, 0, none⟩) := hs 0 (by kernel_rfl)
       clear hs hd hg
       go_simp
       exact ⟨Below.refl _ _, rfl⟩
      ·refine relOb_mk (o := ⟨some 43, _, _, _, _, _⟩) rfl (fun r V hc hf hg hs hb hd => ?_)
       have h0 : r (.tmp 42) = .pointer (some ⟨g, 0, none⟩) := hd 0 42 rfl (by kernel_rfl)
       clear hs hd hg
       go_simp
       exact ⟨Below.refl _ _, rfl⟩
      ·refine relOb_mk (o := ⟨some 44, _, _, _, _, _⟩) rfl (fun r V hc hf hg hs hb hd => ?_)
       have h1 : r (.tmp 43) = .pointer (some ⟨g, 0, none⟩) := hd 1 43 rfl (by kernel_rfl)
       clear hs hd hg
       go_simp
       exact ⟨Below.refl _ _, rfl⟩
      ·refine relOb_mk (o := ⟨some 45, _, _, _, _, _⟩) rfl (fun r V hc hf hg hs hb hd => ?_)
       have h2 : r (.tmp 44) = .pointer (some ⟨g, 1, none⟩) := hd 2 44 rfl (by kernel_rfl)
       clear hs hd hg
       go_simp
       exact ⟨Below.refl _ _, rfl⟩
      ·refine relOb_mk (o := ⟨some 46, _, _, _, _, _⟩) rfl (fun r V hc hf hg hs hb hd => ?_)
       have h3 : r (.tmp 45) = .pointer (some ⟨g, 68, none⟩) := hd 3 45 rfl (by kernel_rfl)
       clear hs hd hg
       have l := blk_cell (HC0.out.below hb).blk 68 _ (cy_pt _ _ _ _)
       go_simp
       exact ⟨Below.refl _ _, rfl⟩
      ·refine relOb_mk (o := ⟨some 47, _, _, _, _, _⟩) rfl (fun r V hc hf hg hs hb hd => ?_)
       have x3 : r (.tmp 3) = .pointer (some ⟨gp, 0, none⟩) := hs 3 (by kernel_rfl)
       clear hs hd hg
       have l := blk_cell (blk_keep hb HQP0.out) 0 _ rfl
       go_simp
       exact ⟨Below.refl _ _, rfl⟩
      ·refine relOb_mk (o := ⟨some 48, _, _, _, _, _⟩) rfl (fun r V hc hf hg hs hb hd => ?_)
       have h5 : r (.tmp 47) = .int .i64 (p : Int) := hd 5 47 rfl (by kernel_rfl)
       clear hs hd hg
       have h31 := HP31.out
       have h0 : (0 : Int) ≤ p := by omega
       have h1 : min p 32 = p := by omega
       have h2 : ¬ (32 : Int) ≤ p := by omega
       have hs1 := shl32 h31
       go_simp
       exact ⟨Below.refl _ _, by simp⟩
      ·refine relOb_mk (o := ⟨some 49, _, _, _, _, _⟩) rfl (fun r V hc hf hg hs hb hd => ?_)
       have h4 : r (.tmp 46) = .int .u32 (s.pt : Int) := hd 4 46 rfl (by kernel_rfl)
       have h6 : r (.tmp 48) = .int .u32 ((pw p : Nat) : Int) := hd 6 48 rfl (by kernel_rfl)
       clear hs hd hg
       have ho1 := HXO.out
       go_simp
       exact ⟨Below.refl _ _, rfl⟩
      ·refine relOb_mk (o := ⟨some 50, _, _, _, _, _⟩) rfl (fun r V hc hf hg hs hb hd => ?_)
       have h0 : r (.tmp 42) = .pointer (some ⟨g, 0, none⟩) := hd 0 42 rfl (by kernel_rfl)
       clear hs hd hg
       go_simp
       exact ⟨Below.refl _ _, rfl⟩
      ·refine relOb_mk (o := ⟨some 51, _, _, _, _, _⟩) rfl (fun r V hc hf hg hs hb hd => ?_)
       have h8 : r (.tmp 50) = .pointer (some ⟨g, 0, none⟩) := hd 8 50 rfl (by kernel_rfl)
       clear hs hd hg
       go_simp
       exact ⟨Below.refl _ _, rfl⟩
      ·refine relOb_mk (o := ⟨some 52, _, _, _, _, _⟩) rfl (fun r V hc hf hg hs hb hd => ?_)
       have h9 : r (.tmp 51) = .pointer (some ⟨g, 1, none⟩) := hd 9 51 rfl (by kernel_rfl)
       clear hs hd hg
       go_simp
       exact ⟨Below.refl _ _, rfl⟩
     ·intro a V hb hx
      have h0 : a.eval (.tmp 42) = .pointer (some ⟨g, 0, none⟩) := hx 0 42 rfl rfl
      have h1 : a.eval (.tmp 43) = .pointer (some ⟨g, 0, none⟩) := hx 1 43 rfl rfl
      have h2 : a.eval (.tmp 44) = .pointer (some ⟨g, 1, none⟩) := hx 2 44 rfl rfl
      have h3 : a.eval (.tmp 45) = .pointer (some ⟨g, 68, none⟩) := hx 3 45 rfl rfl
      have h4 : a.eval (.tmp 46) = .int .u32 (s.pt : Int) := hx 4 46 rfl rfl
      have h5 : a.eval (.tmp 47) = .int .i64 (p : Int) := hx 5 47 rfl rfl
      have h6 : a.eval (.tmp 48) = .int .u32 ((pw p : Nat) : Int) := hx 6 48 rfl rfl
      have h7 : a.eval (.tmp 49) = .int .u32 ((flipB s.pt p : Nat) : Int) := hx 7 49 rfl rfl
      have h8 : a.eval (.tmp 50) = .pointer (some ⟨g, 0, none⟩) := hx 8 50 rfl rfl
      have h9 : a.eval (.tmp 51) = .pointer (some ⟨g, 1, none⟩) := hx 9 51 rfl rfl
      have h10 : a.eval (.tmp 52) = .pointer (some ⟨g, 68, none⟩) := hx 10 52 rfl rfl
      unfold fillAll
      simp only [List.foldl_cons, List.foldl_nil, h0, h1, h2, h3, h4, h5, h6, h7, h8, h9, h10, Act.put, List.setIfInBounds_toArray, List.set_cons_zero, List.set_cons_succ]
      clear h0 h1 h2 h3 h4 h5 h6 h7 h8 h9 h10 hx
      have HCV := Lib.hid (HC0.out.below hb)
      have HBV := Lib.hid (below_tr HB00.out (below_g hb HC0.out.gle))
      clear hb
      refine wpAny_ready (rs := [11]) (by kernel_rfl) (by simp) (AllReady.cons (o := ⟨none, _, _, _, _, _⟩) rfl (fun K hK => ?_) AllReady.nil)
      have c0 := blk_cell HCV.out.blk 68 _ (cy_pt _ _ _ _)
      have f0 := blk_free HCV.out.blk 68
      have hl := blk_lt HCV.out.blk
      go_simp
      clear c0 f0 hl
      refine name_K ?_
      intro VZ hVZ
      have hput := HCV.out.put 68 _ (cs_pt _ _ _ _ _) (HOK1.out)
      rw [← hVZ] at hput
      have HCZ := Lib.hid hput.1
      have HBZ := Lib.hid (below_tr HBV.out hput.2)
      clear hVZ hput HCV HBV
      refine hK _ _ ?_
      clear hK K
      refine wpAny_done (by kernel_rfl) ?_ _
      go_wp2_with fail
      go_end0
      rw [HYES.out (by simp [HNN.out])]
      exact ⟨rfl, HCZ.out, HBZ.out⟩
end Go.Proofs.Ytpohoannggdbjaa
