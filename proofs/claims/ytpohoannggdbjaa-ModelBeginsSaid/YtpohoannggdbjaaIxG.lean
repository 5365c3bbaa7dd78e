/-
 Layer 10: set.
-/
import Derived.Test.YtpohoannggdbjaaIxF
namespace Go.Proofs.Ytpohoannggdbjaa
open Go.RowKit
set_option maxRecDepth 100000
theorem any_no {α : Type} {l : List α} {p : α → Bool} {k : Nat} {y : α} (h : l[k]? = some y) (h0 : (l.take k).any p = false) (h1 : p y = false) : (l.take (k + 1)).any p = false := by
 rw [List.take_add_one, h, List.any_append, h0]; simp [h1]
theorem any_yes {α : Type} {l : List α} {p : α → Bool} {k : Nat} {y : α} (h : l[k]? = some y) (h1 : p y = true) : l.any p = true := List.any_eq_true.2 ⟨y, List.mem_of_getElem? h, h1⟩
theorem any_end {α : Type} {l : List α} {p : α → Bool} {n : Nat} (hn : l.length = n) (h : (l.take n).any p = false) : l.any p = false := by rw [List.take_of_length_le (by omega)] at h; exact h
theorem ptL_zero (l : List (Int × Bool)) (p : Nat) : ptL (l.take 0) p = p := rfl
theorem ptL_succ {l : List (Int × Bool)} {k : Nat} {q : Int} {b : Bool} (h : l[k]? = some (q, b)) (p : Nat) : ptL (l.take (k + 1)) p = if b then withBit (ptL (l.take k) p) q.toNat else woBit (ptL (l.take k) p) q.toNat := by
 unfold ptL
 rw [List.take_add_one, h, List.foldl_append]
 rfl
theorem ptL_end {l : List (Int × Bool)} {n : Nat} (hn : l.length = n) (p : Nat) : ptL (l.take n) p = ptL l p := by rw [List.take_of_length_le (by omega)]
theorem set_no {T : Tb} {s : St} {oc n : Nat} {x : Rw} (h : maySet T s oc n x = false) : setS T s oc n x = s := by unfold setS; rw [h]; rfl
theorem set_yes {T : Tb} {s : St} {oc n : Nat} {x : Rw} (h : maySet T s oc n x = true) : setS T s oc n x = { s with lk := withBit s.lk n, pt := ptL x.nd s.pt } := by unfold setS; rw [h]; rfl
theorem may_set (T : Tb) (s : St) (oc n : Nat) (x : Rw) : maySet T s oc n x = (!hasBit s.lk n && (freeS oc x && (!x.cf.any (fun k => hasBit s.lk k.toNat) && !x.nd.any (ndBad T s oc)))) := rfl
theorem nd_bad {M : Mc} {s : St} {oc : Nat} {q : Nat} {b : Bool} {sec : Int} (h : M.li.l[q]? = some sec) : ndBad M.tb s oc ((q : Int), b) = ((hasBit s.pt q != b) && hasBit oc sec.toNat) := by
 have hg : M.tb.li.getD q 0 = sec := by rw [tb_li, List.getD_eq_getElem?_getD, h]; rfl
 unfold ndBad
 simp only [Int.toNat_natCast]
 rw [hg]
attribute [local irreducible] Sl.v hasBit pw withBit woBit cyL stL stV tmL freeS ndBad maySet ptL setS mayCan canS canD nedS flipB mayMov movS comG relS rouS proS tidyS comsG rousS prosS nextG outS lnOk rightK rgtS eqS Mc.tb upd mayS checkS sideN
set_option maxHeartbeats 16000000 in
theorem set_is (g m u : Nat) (M : Mc) (s : St) (i : Inp) (w : World) (hC : Cy w g m M s i u) (n : Nat) (x : Ln) (hx : M.ln.l[n]? = some x) :
 Calls Try.prog 33 #[.pointer (some ⟨g, 0, none⟩), .int .i64 (n : Int)] w fun e w' => e = .returned (.tuple #[]) ∧ Cy w' g m M (setS M.tb s i.oc n x.rw) i u ∧ Below g w w' := by
 have h63 : n ≤ 63 := by have h1 := (List.getElem?_eq_some_iff.1 hx).1; have h2 := hC.tb.rn; rw [tb_len] at h2; omega
 obtain ⟨bl, hbl⟩ : ∃ b, hasBit s.lk n = b := ⟨_, rfl⟩
 obtain ⟨bf, hbf⟩ : ∃ b, freeS i.oc x.rw = b := ⟨_, rfl⟩
 obtain ⟨bc, hbc⟩ : ∃ b, x.cf.l.any (fun k => hasBit s.lk k.toNat) = b := ⟨_, rfl⟩
 obtain ⟨T, hT⟩ : ∃ T, setS M.tb s i.oc n x.rw = T := ⟨_, rfl⟩
 have hms : maySet M.tb s i.oc n x.rw = (!bl && (bf && (!bc && !x.nd.l.any (ndBad M.tb s i.oc)))) := by rw [may_set, hbl, hbf]; show (!bl && (bf && (!x.cf.l.any _ && _))) = _; rw [hbc]; rfl
 have HNO1 : Hid (bl = true → T = s) := Lib.hid (fun h => by rw [← hT]; exact set_no (by rw [hms, h]; rfl))
 have HNO2 : Hid (bf = false → T = s) := Lib.hid (fun h => by rw [← hT]; exact set_no (by rw [hms, h]; cases bl <;> rfl))
 have HNO3 : Hid (bc = true → T = s) := Lib.hid (fun h => by rw [← hT]; exact set_no (by rw [hms, h]; cases bl <;> cases bf <;> rfl))
 have HNO4 : Hid (x.nd.l.any (ndBad M.tb s i.oc) = true → T = s) := Lib.hid (fun h => by rw [← hT]; exact set_no (by rw [hms, h]; cases bl <;> cases bf <;> cases bc <;> rfl))
 have HYES : Hid ((!bl && (bf && (!bc && !x.nd.l.any (ndBad M.tb s i.oc)))) = true → T = { s with lk := withBit s.lk n, pt := ptL x.nd.l s.pt }) := Lib.hid (fun h => by rw [← hT]; exact set_yes (by rw [hms]; exact h))
 have hs := hC.sok
 have HOR : Hid (bits .or .u64 (s.lk : Int) (pw n : Int) = ((withBit s.lk n : Nat) : Int)) := Lib.hid (or_form s.lk n h63 hs.lk)
 have HOK1 : Hid (St.ok { s with lk := withBit s.lk n }) := Lib.hid ⟨withBit_lt _ _ h63 hs.lk, hs.us, hs.ca, hs.tm, hs.pt⟩
 have HN63 := Lib.hid h63
 have HP32 : Hid (s.pt < 4294967296) := Lib.hid hs.pt
 have HXM := Lib.hid (List.mem_of_getElem? hx)
 rw [hT]
 obtain ⟨N1, hN1⟩ : ∃ k, M.ln.l.length = k := ⟨_, rfl⟩
 have cm0 := blk_cell hC.mach.blk 0 _ rfl
 rw [slv hN1] at cm0
 have hlt1 : n < N1 := by rw [← hN1]; exact (List.getElem?_eq_some_iff.1 hx).1
 have hle1 : N1 ≤ 64 := by have := hC.tb.rn; rw [tb_len, hN1] at this; exact this
 have hok1 := ln_ok hC.tb hx
 obtain ⟨LC, hLC⟩ : ∃ c, M.ln.c = c := ⟨_, rfl⟩
 obtain ⟨LA, hLA⟩ : ∃ a, M.ln.a = a := ⟨_, rfl⟩
 have hlrow := hC.mach.ln.at_.row
 rw [hLA] at hlrow
 rw [hLA, hLC] at cm0
 rcases hlrow with hnil | ⟨lb, lo, hlb, hlc⟩
 ·rw [hnil] at hx; cases hx
 rw [hlb] at cm0
 have HLC := Lib.hid (fun j v hv => hlc n x hx j v hv)
 have HNB : Hid (∀ y ∈ x.nd.l, 0 ≤ y.1 ∧ y.1 < M.li.l.length ∧ M.li.l.length ≤ 32) := Lib.hid (fun y hy => by have h := hok1.nd y hy; have h2 := hC.tb.pn; rw [tb_li] at h2; omega)
 have HCB : Hid (∀ y ∈ x.cf.l, 0 ≤ y ∧ y ≤ 63) := Lib.hid (fun y hy => by have h := hok1.cf y hy; omega)
 have HIB : Hid (∀ y ∈ M.li.l, 0 ≤ y ∧ y ≤ 63) := Lib.hid (fun y hy => hC.tb.li y (by rw [tb_li]; exact hy))
 have hz := HLC.out
 have z0 := hz 0 _ rfl
 have z1 := hz 1 _ rfl
 have z2 := hz 2 _ rfl
 have z3 := hz 3 _ rfl
 have z4 := hz 4 _ rfl
 rw [Nat.add_zero] at z0
 obtain ⟨t1, ht1⟩ : ∃ k, x.tk.l.length = k := ⟨_, rfl⟩
 obtain ⟨t2, ht2⟩ : ∃ k, x.nd.l.length = k := ⟨_, rfl⟩
 obtain ⟨t3, ht3⟩ : ∃ k, x.cf.l.length = k := ⟨_, rfl⟩
 rw [slv ht1] at z2
 rw [slv ht2] at z3
 rw [slv ht3] at z4
 clear hz
 have hl0 := blk_cell hC.blk 0 _ (cy_0 _ _ _ _)
 have HLK : Hid (∀ V, Below w.heap.size w V → Calls Try.prog 19 #[.pointer (some ⟨g, 0, none⟩), .int .i64 (n : Int)] V fun e w' => e = .returned (.bool bl) ∧ Below V.heap.size V w') := Lib.hid (fun V hV => locked_is bl g m u M s i V (hC.below hV) n h63 hbl)
 have HFR : Hid (∀ V, Below w.heap.size w V → Calls Try.prog 36 #[.pointer (some ⟨g, 0, none⟩), .int .i64 (n : Int)] V fun e w' => e = .returned (.bool bf) ∧ Below V.heap.size V w') := Lib.hid (fun V hV => free_is bf g m u M s i V (hC.below hV) n x hx hbf)
 have hcm := (hC.mach.lns x HXM.out).cf.at_
 have HCF : Hid (∀ V, Below w.heap.size w V → Calls Try.prog 56 #[.slice x.cf.a t3 x.cf.c, .func (.func 19) #[.pointer (some ⟨g, 0, none⟩)] #[]] V fun e w' => e = .returned (.bool bc) ∧ Below V.heap.size V w') :=
  Lib.hid (fun V hV => conf_lock bc g (fun k => hasBit s.lk k.toNat) x.cf.a t3 x.cf.c x.cf.l V hbc ht3 (by rw [← ht3]; exact hcm.lenM) (hcm.row.below hV) (fun U hU y hy => by
   have hyb := HCB.out y hy
   obtain ⟨k, rfl⟩ : ∃ k : Nat, y = k := ⟨y.toNat, by omega⟩
   rw [Int.toNat_natCast]
   exact locked_is _ g m u M s i U ((hC.below hV).below hU) k (by omega) rfl))
 have HTM : Hid (t2 ≤ 9223372036854775807) := Lib.hid (by rw [← ht2]; exact (hC.mach.lns x HXM.out).nd.at_.lenM)
 have HT2 := Lib.hid ht2
 have HC := Lib.hid hC
 have d1 : (0 : Int) ≤ n := by omega
 have d2 : (n : Int) < N1 := by omega
 clear hbl hbf hbc hT hms hs h63 hC hx hlc hok1 hlb hLA hLC hN1 hle1 hlt1 ht1 ht2 ht3 hcm
 go_enter Try.func33, Try.ntmps33
 go_upto_region 1 with fail
 have hbn := below1 w (.cells #[.int .i64 x.fi, .int .i64 x.ah, .slice x.tk.a t1 x.tk.c, .slice x.nd.a t2 x.nd.c, .slice x.cf.a t3 x.cf.c] 80)
 have hqn := alloc1 w (.cells #[.int .i64 x.fi, .int .i64 x.ah, .slice x.tk.a t1 x.tk.c, .slice x.nd.a t2 x.nd.c, .slice x.cf.a t3 x.cf.c] 80) (Below.refl _ _)
 obtain ⟨V, hV⟩ : ∃ V, V = w.alloc (.cells #[.int .i64 x.fi, .int .i64 x.ah, .slice x.tk.a t1 x.tk.c, .slice x.nd.a t2 x.nd.c, .slice x.cf.a t3 x.cf.c] 80) := ⟨_, rfl⟩
 rw [← hV] at hbn hqn ⊢
 obtain ⟨gr, hgr⟩ : ∃ g, g = w.heap.size := ⟨_, rfl⟩
 rw [← hgr] at hqn ⊢
 have HB0 := Lib.hid hbn
 have HQR := Lib.hid hqn
 have HGR : Hid (gr ≠ g) := Lib.hid (by have := blk_lt HC.out.blk; omega)
 clear hbn hqn hV hgr z0 z1 z2 z3 z4 hl0 cm0 d1 d2
 go_wp2_with fail
 refine (HLK.out _ HB0.out).mono ?_
 rintro e w1 ⟨rfl, hb⟩
 have HB1 := Lib.hid (below_on HB0.out hb)
 have HQR1 := Lib.hid (blk_keep hb HQR.out)
 clear hb HB0 HQR HLK
 cases bl with
 | true =>
   go_wp2_with fail
   (try simp only [Exit.inBlock, Exit.then])
   refine bodyPost_ret (results_none rfl _ _ _) rfl ?_
   exact ⟨rfl, HNO1.out (by simp) ▸ HC.out.below HB1.out, below_g HB1.out HC.out.gle⟩
 | false =>
   go_wp2_with fail
   refine (HFR.out _ HB1.out).mono ?_
   rintro e w2 ⟨rfl, hb⟩
   have HB2 := Lib.hid (below_on HB1.out hb)
   have HQR2 := Lib.hid (blk_keep hb HQR1.out)
   clear hb HB1 HQR1 HFR
   cases bf with
   | false =>
     go_wp2_with fail
     (try simp only [Exit.inBlock, Exit.then])
     refine bodyPost_ret (results_none rfl _ _ _) rfl ?_
     exact ⟨rfl, HNO2.out (by simp) ▸ HC.out.below HB2.out, below_g HB2.out HC.out.gle⟩
   | true =>
     have c4 := blk_cell HQR2.out 4 _ rfl
     go_wp2_with fail
     refine (HCF.out _ HB2.out).mono ?_
     rintro e w3 ⟨rfl, hb⟩
     have HB3 := Lib.hid (below_on HB2.out hb)
     have HQR3 := Lib.hid (blk_keep hb HQR2.out)
     clear hb HB2 HQR2 HCF c4
     cases bc with
     | true =>
       go_wp2_with fail
       (try simp only [Exit.inBlock, Exit.then])
       refine bodyPost_ret (results_none rfl _ _ _) rfl ?_
       exact ⟨rfl, HNO3.out (by simp) ▸ HC.out.below HB3.out, below_g HB3.out HC.out.gle⟩
     | false =>
       have HC3 := Lib.hid (HC.out.below HB3.out)
       have HG3 := Lib.hid (below_g HB3.out HC.out.gle)
       have c3 := blk_cell HQR3.out 3 _ rfl
       clear HNO1 HNO2 HNO3 HLC HC
       go_upto_region 3 with fail
       clear c3
       go_loopg [38] t2 (fun g9 v wr => ∃ k : Nat, k + g9 = t2 ∧ v = .int .i64 (k : Int) ∧ (x.nd.l.take k).any (ndBad M.tb s i.oc) = false ∧ Below w3.heap.size w3 wr)
       case atStart => exact ⟨0, by omega, rfl, rfl, Below.refl _ _⟩
       case round =>
        obtain ⟨k, hk, rfl, hnn, hbw⟩ := hrel
        have HK := Lib.hid hk
        have HNK := Lib.hid hnn
        have HB := Lib.hid hbw
        clear hk hnn hbw
        by_cases hlt : k < t2
        ·have d1 : (0 : Int) ≤ k := by omega
         have d2 : (k : Int) < t2 := by omega
         have e1 := k_succ hlt HTM.out
         have HLT := Lib.hid hlt
         obtain ⟨y, hy⟩ : ∃ y, x.nd.l[k]? = some y := ⟨_, List.getElem?_eq_getElem (by rw [HT2.out]; exact hlt)⟩
         obtain ⟨q', sg⟩ := y
         have hyb := HNB.out (q', sg) (List.mem_of_getElem? hy)
         obtain ⟨q, rfl⟩ : ∃ q : Nat, q' = q := ⟨q'.toNat, by dsimp only at hyb; omega⟩
         have hq : q < M.li.l.length := by dsimp only at hyb; omega
         have HQ31 : Hid (q ≤ 31) := Lib.hid (by dsimp only at hyb; omega)
         obtain ⟨sec, hsec⟩ : ∃ c, M.li.l[q]? = some c := ⟨_, List.getElem?_eq_getElem hq⟩
         have HSB := Lib.hid (HIB.out sec (List.mem_of_getElem? hsec))
         obtain ⟨bp, hbp⟩ : ∃ b, hasBit s.pt q = b := ⟨_, rfl⟩
         obtain ⟨bo, hbo⟩ : ∃ b, hasBit i.oc sec.toNat = b := ⟨_, rfl⟩
         have HBAD : Hid (ndBad M.tb s i.oc ((q : Int), sg) = ((bp != sg) && bo)) := Lib.hid (by rw [nd_bad hsec, hbp, hbo])
         have HYY := Lib.hid hy
         have HBP := Lib.hid hbp
         have HBO := Lib.hid hbo
         have HCR := Lib.hid (HC3.out.below HB.out)
         have hcr := HCR.out
         obtain ⟨N2, hN2⟩ : ∃ k, M.li.l.length = k := ⟨_, rfl⟩
         have cm1 := blk_cell hcr.mach.blk 1 _ rfl
         rw [slv hN2] at cm1
         obtain ⟨IC, hIC⟩ : ∃ c, M.li.c = c := ⟨_, rfl⟩
         obtain ⟨IA, hIA⟩ : ∃ a, M.li.a = a := ⟨_, rfl⟩
         have hirow := hcr.mach.li.at_.row
         rw [hIA] at hirow
         rw [hIA, hIC] at cm1
         rcases hirow with hnil | ⟨ib, io, hib, hic⟩
         ·rw [hnil] at hsec; cases hsec
         rw [hib] at cm1
         have y0 := hic q sec hsec 0 _ rfl
         rw [Nat.mul_one, Nat.add_zero] at y0
         have HQN2 : Hid ((0 : Int) ≤ q ∧ (q : Int) < N2) := Lib.hid (by omega)
         have HM1' := Lib.hid cm1
         have HY0' := Lib.hid y0
         have hor := (hcr.mach.lns x HXM.out).nd.at_.row
         obtain ⟨X, hX⟩ : ∃ a, x.nd.a = a := ⟨_, rfl⟩
         have HXX := Lib.hid hX
         rw [hX] at hor ⊢
         rcases hor with hnil | ⟨nb, no, hnb, hnc⟩
         ·rw [hnil] at hy; cases hy
         subst hnb
         have u0 := hnc k _ hy 0 _ rfl
         have u1 := hnc k _ hy 1 _ rfl
         rw [Nat.add_zero] at u0
         clear hnc hX hy hyb hlt hq hsec hbp hbo hcr cm1 y0 hic hib hIA hIC hN2
         go_upto_region 5 with fail
         have hbn := below1 wr (.cells #[.int .i64 (q : Int), .bool sg] 55)
         have hqn := alloc1 wr (.cells #[.int .i64 (q : Int), .bool sg] 55) (Below.refl _ _)
         obtain ⟨VN, hVN⟩ : ∃ V, V = wr.alloc (.cells #[.int .i64 (q : Int), .bool sg] 55) := ⟨_, rfl⟩
         rw [← hVN] at hbn hqn ⊢
         obtain ⟨gx, hgx⟩ : ∃ g, g = wr.heap.size := ⟨_, rfl⟩
         rw [← hgx] at hqn ⊢
         have HQX := Lib.hid hqn
         have HCN := Lib.hid (HCR.out.below hbn)
         have HBN := Lib.hid hbn
         have HM1 := Lib.hid (cell_later hbn HM1'.out)
         have HY0 := Lib.hid (cell_later hbn HY0'.out)
         have e2 : IntKind.u64.wrap (s.pt : Int) = (s.pt : Int) := by have := HP32.out; rw [IntKind.wrap_u64]; omega
         have KIN : Hid (∀ w', Below VN.heap.size VN w' → Calls Try.prog 32 #[.int .u64 (s.pt : Int), .int .i64 (q : Int)] w' fun e w'' => e = .returned (.bool bp) ∧ Below VN.heap.size VN w'') := Lib.hid (fun w' hw' => (in_is bp s.pt q w' (by have := HQ31.out; omega) (by have := HP32.out; omega) HBP.out).mono (fun _ _ ⟨h1, h2⟩ => ⟨h1, h2 ▸ hw'⟩))
         have KCL : Hid (∀ w', Below VN.heap.size VN w' → Calls Try.prog 37 #[.pointer (some ⟨g, 0, none⟩), .int .i64 sec] w' fun e w'' => e = .returned (.bool (!bo)) ∧ Below VN.heap.size VN w'') := Lib.hid (fun w' hw' => (clear_is bo g m u M s i w' (HCN.out.below hw') sec HSB.out HBO.out).mono (fun _ _ h => ⟨h.1, below_on hw' h.2⟩))
         have d3 := HQN2.out.1
         have d4 := HQN2.out.2
         clear hbn hqn hVN hgx u0 u1 HM1' HY0'
         cases bp with
         | true =>
           cases sg with
           | true =>
             refine wp_region_calm (by kernel_rfl) ?_ ?_
             ·kernel_rfl
             repeat first
              | go_big_quiet_skip
              | (go_big_quiet_want; go_big_quiet_op; go_big_quiet_on)
              | (with_reducible apply wpQuiet_step
                 intro K hK
                 go_simp
                 first
                  | (refine hK _ ?_; clear hK K)
                  | (apply Exists.intro
                     refine ⟨fun w' hw' => ?_, hK _ ?_⟩
                     ·
                      (first
                       | with_reducible exact KIN.out _ hw'
                       | with_reducible exact KCL.out _ hw'
                       | (have g0 := blk_cell (HCN.out.below hw').blk 68 _ (cy_pt _ _ _ _)
                          go_simp
                          first | done | with_reducible exact rfl | with_reducible exact ⟨rfl, rfl⟩ | with_reducible exact KIN.out _ hw' | with_reducible exact KCL.out _ hw')
                       | (have g1 := blk_cell (blk_keep hw' HQX.out) 0 _ rfl
                          go_simp
                          first | done | with_reducible exact rfl | with_reducible exact ⟨rfl, rfl⟩ | with_reducible exact KIN.out _ hw' | with_reducible exact KCL.out _ hw')
                       | (have g2 := blk_cell (blk_keep hw' HQX.out) 1 _ rfl
                          go_simp
                          first | done | with_reducible exact rfl | with_reducible exact ⟨rfl, rfl⟩ | with_reducible exact KIN.out _ hw' | with_reducible exact KCL.out _ hw')
                       | (have g3 := blk_cell (HCN.out.below hw').blk 0 _ (cy_0 _ _ _ _)
                          go_simp
                          first | done | with_reducible exact rfl | with_reducible exact ⟨rfl, rfl⟩ | with_reducible exact KIN.out _ hw' | with_reducible exact KCL.out _ hw')
                       | (have g4 := cell_later hw' HM1.out
                          go_simp
                          first | done | with_reducible exact rfl | with_reducible exact ⟨rfl, rfl⟩ | with_reducible exact KIN.out _ hw' | with_reducible exact KCL.out _ hw')
                       | (have g5 := cell_later hw' HY0.out
                          go_simp
                          first | done | with_reducible exact rfl | with_reducible exact ⟨rfl, rfl⟩ | with_reducible exact KIN.out _ hw' | with_reducible exact KCL.out _ hw'))
                     clear hK K))
             refine wpQuiet_nil ?_
             intro w6 hw6
             have HB6 := Lib.hid (below_on HBN.out hw6)
             have HB6X := Lib.hid hw6
             clear hw6
             clear d3 d4 e2
             go_wp2_with fail
             rw [← HXX.out]
             go_roundg (t2 - (k + 1))
             case rel => exact ⟨k + 1, k_next HK.out HLT.out, by go_num, any_no HYY.out HNK.out (by rw [HBAD.out]; rfl), below_on HB.out HB6.out⟩
             case measure => exact k_less HK.out HLT.out
           | false =>
             refine wp_region_calm (by kernel_rfl) ?_ ?_
             ·kernel_rfl
             repeat first
              | go_big_quiet_skip
              | (go_big_quiet_want; go_big_quiet_op; go_big_quiet_on)
              | (with_reducible apply wpQuiet_step
                 intro K hK
                 go_simp
                 first
                  | (refine hK _ ?_; clear hK K)
                  | (apply Exists.intro
                     refine ⟨fun w' hw' => ?_, hK _ ?_⟩
                     ·
                      (first
                       | with_reducible exact KIN.out _ hw'
                       | with_reducible exact KCL.out _ hw'
                       | (have g0 := blk_cell (HCN.out.below hw').blk 68 _ (cy_pt _ _ _ _)
                          go_simp
                          first | done | with_reducible exact rfl | with_reducible exact ⟨rfl, rfl⟩ | with_reducible exact KIN.out _ hw' | with_reducible exact KCL.out _ hw')
                       | (have g1 := blk_cell (blk_keep hw' HQX.out) 0 _ rfl
                          go_simp
                          first | done | with_reducible exact rfl | with_reducible exact ⟨rfl, rfl⟩ | with_reducible exact KIN.out _ hw' | with_reducible exact KCL.out _ hw')
                       | (have g2 := blk_cell (blk_keep hw' HQX.out) 1 _ rfl
                          go_simp
                          first | done | with_reducible exact rfl | with_reducible exact ⟨rfl, rfl⟩ | with_reducible exact KIN.out _ hw' | with_reducible exact KCL.out _ hw')
                       | (have g3 := blk_cell (HCN.out.below hw').blk 0 _ (cy_0 _ _ _ _)
                          go_simp
                          first | done | with_reducible exact rfl | with_reducible exact ⟨rfl, rfl⟩ | with_reducible exact KIN.out _ hw' | with_reducible exact KCL.out _ hw')
                       | (have g4 := cell_later hw' HM1.out
                          go_simp
                          first | done | with_reducible exact rfl | with_reducible exact ⟨rfl, rfl⟩ | with_reducible exact KIN.out _ hw' | with_reducible exact KCL.out _ hw')
                       | (have g5 := cell_later hw' HY0.out
                          go_simp
                          first | done | with_reducible exact rfl | with_reducible exact ⟨rfl, rfl⟩ | with_reducible exact KIN.out _ hw' | with_reducible exact KCL.out _ hw'))
                     clear hK K))
             refine wpQuiet_nil ?_
             intro w6 hw6
             have HB6 := Lib.hid (below_on HBN.out hw6)
             have HB6X := Lib.hid hw6
             clear hw6
             cases bo with
             | true =>
               clear d3 d4 e2
               go_wp2_with fail
               (try simp only [Exit.inBlock, Exit.then])
               refine bodyPost_ret (results_none rfl _ _ _) rfl ?_
               exact ⟨rfl, HNO4.out (any_yes HYY.out (by rw [HBAD.out]; rfl)) ▸ HCN.out.below HB6X.out, below_tr HG3.out (below_g (below_on HB.out HB6.out) HC3.out.gle)⟩
             | false =>
               clear d3 d4 e2
               go_wp2_with fail
               rw [← HXX.out]
               go_roundg (t2 - (k + 1))
               case rel => exact ⟨k + 1, k_next HK.out HLT.out, by go_num, any_no HYY.out HNK.out (by rw [HBAD.out]; rfl), below_on HB.out HB6.out⟩
               case measure => exact k_less HK.out HLT.out
         | false =>
           cases sg with
           | true =>
             refine wp_region_calm (by kernel_rfl) ?_ ?_
             ·kernel_rfl
             repeat first
              | go_big_quiet_skip
              | (go_big_quiet_want; go_big_quiet_op; go_big_quiet_on)
              | (with_reducible apply wpQuiet_step
                 intro K hK
                 go_simp
                 first
                  | (refine hK _ ?_; clear hK K)
                  | (apply Exists.intro
                     refine ⟨fun w' hw' => ?_, hK _ ?_⟩
                     ·
                      (first
                       | with_reducible exact KIN.out _ hw'
                       | with_reducible exact KCL.out _ hw'
                       | (have g0 := blk_cell (HCN.out.below hw').blk 68 _ (cy_pt _ _ _ _)
                          go_simp
                          first | done | with_reducible exact rfl | with_reducible exact ⟨rfl, rfl⟩ | with_reducible exact KIN.out _ hw' | with_reducible exact KCL.out _ hw')
                       | (have g1 := blk_cell (blk_keep hw' HQX.out) 0 _ rfl
                          go_simp
                          first | done | with_reducible exact rfl | with_reducible exact ⟨rfl, rfl⟩ | with_reducible exact KIN.out _ hw' | with_reducible exact KCL.out _ hw')
                       | (have g2 := blk_cell (blk_keep hw' HQX.out) 1 _ rfl
                          go_simp
                          first | done | with_reducible exact rfl | with_reducible exact ⟨rfl, rfl⟩ | with_reducible exact KIN.out _ hw' | with_reducible exact KCL.out _ hw')
                       | (have g3 := blk_cell (HCN.out.below hw').blk 0 _ (cy_0 _ _ _ _)
                          go_simp
                          first | done | with_reducible exact rfl | with_reducible exact ⟨rfl, rfl⟩ | with_reducible exact KIN.out _ hw' | with_reducible exact KCL.out _ hw')
                       | (have g4 := cell_later hw' HM1.out
                          go_simp
                          first | done | with_reducible exact rfl | with_reducible exact ⟨rfl, rfl⟩ | with_reducible exact KIN.out _ hw' | with_reducible exact KCL.out _ hw')
                       | (have g5 := cell_later hw' HY0.out
                          go_simp
                          first | done | with_reducible exact rfl | with_reducible exact ⟨rfl, rfl⟩ | with_reducible exact KIN.out _ hw' | with_reducible exact KCL.out _ hw'))
                     clear hK K))
             refine wpQuiet_nil ?_
             intro w6 hw6
             have HB6 := Lib.hid (below_on HBN.out hw6)
             have HB6X := Lib.hid hw6
             clear hw6
             cases bo with
             | true =>
               clear d3 d4 e2
               go_wp2_with fail
               (try simp only [Exit.inBlock, Exit.then])
               refine bodyPost_ret (results_none rfl _ _ _) rfl ?_
               exact ⟨rfl, HNO4.out (any_yes HYY.out (by rw [HBAD.out]; rfl)) ▸ HCN.out.below HB6X.out, below_tr HG3.out (below_g (below_on HB.out HB6.out) HC3.out.gle)⟩
             | false =>
               clear d3 d4 e2
               go_wp2_with fail
               rw [← HXX.out]
               go_roundg (t2 - (k + 1))
               case rel => exact ⟨k + 1, k_next HK.out HLT.out, by go_num, any_no HYY.out HNK.out (by rw [HBAD.out]; rfl), below_on HB.out HB6.out⟩
               case measure => exact k_less HK.out HLT.out
           | false =>
             refine wp_region_calm (by kernel_rfl) ?_ ?_
             ·kernel_rfl
             repeat first
              | go_big_quiet_skip
              | (go_big_quiet_want; go_big_quiet_op; go_big_quiet_on)
              | (with_reducible apply wpQuiet_step
                 intro K hK
                 go_simp
                 first
                  | (refine hK _ ?_; clear hK K)
                  | (apply Exists.intro
                     refine ⟨fun w' hw' => ?_, hK _ ?_⟩
                     ·
                      (first
                       | with_reducible exact KIN.out _ hw'
                       | with_reducible exact KCL.out _ hw'
                       | (have g0 := blk_cell (HCN.out.below hw').blk 68 _ (cy_pt _ _ _ _)
                          go_simp
                          first | done | with_reducible exact rfl | with_reducible exact ⟨rfl, rfl⟩ | with_reducible exact KIN.out _ hw' | with_reducible exact KCL.out _ hw')
                       | (have g1 := blk_cell (blk_keep hw' HQX.out) 0 _ rfl
                          go_simp
                          first | done | with_reducible exact rfl | with_reducible exact ⟨rfl, rfl⟩ | with_reducible exact KIN.out _ hw' | with_reducible exact KCL.out _ hw')
                       | (have g2 := blk_cell (blk_keep hw' HQX.out) 1 _ rfl
                          go_simp
                          first | done | with_reducible exact rfl | with_reducible exact ⟨rfl, rfl⟩ | with_reducible exact KIN.out _ hw' | with_reducible exact KCL.out _ hw')
                       | (have g3 := blk_cell (HCN.out.below hw').blk 0 _ (cy_0 _ _ _ _)
                          go_simp
                          first | done | with_reducible exact rfl | with_reducible exact ⟨rfl, rfl⟩ | with_reducible exact KIN.out _ hw' | with_reducible exact KCL.out _ hw')
                       | (have g4 := cell_later hw' HM1.out
                          go_simp
                          first | done | with_reducible exact rfl | with_reducible exact ⟨rfl, rfl⟩ | with_reducible exact KIN.out _ hw' | with_reducible exact KCL.out _ hw')
                       | (have g5 := cell_later hw' HY0.out
                          go_simp
                          first | done | with_reducible exact rfl | with_reducible exact ⟨rfl, rfl⟩ | with_reducible exact KIN.out _ hw' | with_reducible exact KCL.out _ hw'))
                     clear hK K))
             refine wpQuiet_nil ?_
             intro w6 hw6
             have HB6 := Lib.hid (below_on HBN.out hw6)
             have HB6X := Lib.hid hw6
             clear hw6
             clear d3 d4 e2
             go_wp2_with fail
             rw [← HXX.out]
             go_roundg (t2 - (k + 1))
             case rel => exact ⟨k + 1, k_next HK.out HLT.out, by go_num, any_no HYY.out HNK.out (by rw [HBAD.out]; rfl), below_on HB.out HB6.out⟩
             case measure => exact k_less HK.out HLT.out
        ·have d2 : ¬ (k : Int) < t2 := by omega
         have HNN : Hid (x.nd.l.any (ndBad M.tb s i.oc) = false) := Lib.hid (any_end HT2.out (by rw [show t2 = k by have := HK.out; omega]; exact HNK.out))
         have HC0 := Lib.hid (HC3.out.below HB.out)
         have HQR0 := Lib.hid (blk_keep HB.out HQR3.out)
         have HB00 := Lib.hid (below_tr HG3.out (below_g HB.out HC3.out.gle))
         clear hlt HC3 HQR3 HG3 HB
         go_upto_region 7 with fail
         refine wp_region_rel (by kernel_rfl) [11] 14 [0, 1, 2, 3, 4, 5, 6, 7, 8, 9, 10] [71, 72, 73, 74, 75, 76, 77, 78, 79, 80, 81] #[true, true, true, true, true, true, true, true, true, true, true, false] 1 [(fun v _ => v = .pointer (some ⟨g, 0, none⟩)), (fun v _ => v = .pointer (some ⟨g, 0, none⟩)), (fun v _ => v = .pointer (some ⟨g, 1, none⟩)), (fun v _ => v = .pointer (some ⟨g, 1, none⟩)), (fun v _ => v = .int .u64 (s.lk : Int)), (fun v _ => v = .int .i64 (n : Int)), (fun v _ => v = .int .u64 (pw n : Int)), (fun v _ => v = .int .u64 ((withBit s.lk n : Nat) : Int)), (fun v _ => v = .pointer (some ⟨g, 0, none⟩)), (fun v _ => v = .pointer (some ⟨g, 1, none⟩)), (fun v _ => v = .pointer (some ⟨g, 1, none⟩)), (fun _ _ => True)] (by kernel_rfl) (by kernel_rfl) (by kernel_rfl) (by kernel_rfl) (by kernel_rfl) rfl (by kernel_rfl) rfl ?_ ?_ ?_
         ·exact ⟨stays_is _, stays_is _, stays_is _, stays_is _, stays_is _, stays_is _, stays_is _, stays_is _, stays_is _, stays_is _, stays_is _, stays_true, trivial⟩
         ·refine ⟨?_, ?_, ?_, ?_, ?_, ?_, ?_, ?_, ?_, ?_, ?_, trivial⟩
          ·refine relOb_mk (o := ⟨some 71, _, _, _, _, _⟩) rfl (fun r V hc hf hg hs hb hd => ?_)
           have x0 : r (.tmp 0) = .pointer (some ⟨g, 0, none⟩) := hs 0 (by kernel_rfl)
           clear hs hd hg
           go_simp
           exact ⟨Below.refl _ _, rfl⟩
          ·refine relOb_mk (o := ⟨some 72, _, _, _, _, _⟩) rfl (fun r V hc hf hg hs hb hd => ?_)
           have h0 : r (.tmp 71) = .pointer (some ⟨g, 0, none⟩) := hd 0 71 rfl (by kernel_rfl)
           clear hs hd hg
           go_simp
           exact ⟨Below.refl _ _, rfl⟩
          ·refine relOb_mk (o := ⟨some 73, _, _, _, _, _⟩) rfl (fun r V hc hf hg hs hb hd => ?_)
           have h1 : r (.tmp 72) = .pointer (some ⟨g, 0, none⟩) := hd 1 72 rfl (by kernel_rfl)
           clear hs hd hg
           go_simp
           exact ⟨Below.refl _ _, rfl⟩
          ·refine relOb_mk (o := ⟨some 74, _, _, _, _, _⟩) rfl (fun r V hc hf hg hs hb hd => ?_)
           have h2 : r (.tmp 73) = .pointer (some ⟨g, 1, none⟩) := hd 2 73 rfl (by kernel_rfl)
           clear hs hd hg
           go_simp
           exact ⟨Below.refl _ _, rfl⟩
          ·refine relOb_mk (o := ⟨some 75, _, _, _, _, _⟩) rfl (fun r V hc hf hg hs hb hd => ?_)
           have h3 : r (.tmp 74) = .pointer (some ⟨g, 1, none⟩) := hd 3 74 rfl (by kernel_rfl)
           clear hs hd hg
           have l := blk_cell (HC0.out.below hb).blk 1 _ (cy_1 _ _ _ _)
           go_simp
           exact ⟨Below.refl _ _, rfl⟩
          ·refine relOb_mk (o := ⟨some 76, _, _, _, _, _⟩) rfl (fun r V hc hf hg hs hb hd => ?_)
           have x1 : r (.tmp 1) = .int .i64 (n : Int) := hs 1 (by kernel_rfl)
           clear hs hd hg
           go_simp
           exact ⟨Below.refl _ _, rfl⟩
          ·refine relOb_mk (o := ⟨some 77, _, _, _, _, _⟩) rfl (fun r V hc hf hg hs hb hd => ?_)
           have h5 : r (.tmp 76) = .int .i64 (n : Int) := hd 5 76 rfl (by kernel_rfl)
           clear hs hd hg
           have h63 := HN63.out
           have h0 : (0 : Int) ≤ n := by omega
           have h1 : min n 64 = n := by omega
           have h2 : ¬ (64 : Int) ≤ n := by omega
           have hs1 := one_form n h63
           go_simp
           exact ⟨Below.refl _ _, by simp⟩
          ·refine relOb_mk (o := ⟨some 78, _, _, _, _, _⟩) rfl (fun r V hc hf hg hs hb hd => ?_)
           have h4 : r (.tmp 75) = .int .u64 (s.lk : Int) := hd 4 75 rfl (by kernel_rfl)
           have h6 : r (.tmp 77) = .int .u64 (pw n : Int) := hd 6 77 rfl (by kernel_rfl)
           clear hs hd hg
           have ho1 := HOR.out
           go_simp
           exact ⟨Below.refl _ _, rfl⟩
          ·refine relOb_mk (o := ⟨some 79, _, _, _, _, _⟩) rfl (fun r V hc hf hg hs hb hd => ?_)
           have h0 : r (.tmp 71) = .pointer (some ⟨g, 0, none⟩) := hd 0 71 rfl (by kernel_rfl)
           clear hs hd hg
           go_simp
           exact ⟨Below.refl _ _, rfl⟩
          ·refine relOb_mk (o := ⟨some 80, _, _, _, _, _⟩) rfl (fun r V hc hf hg hs hb hd => ?_)
           have h8 : r (.tmp 79) = .pointer (some ⟨g, 0, none⟩) := hd 8 79 rfl (by kernel_rfl)
           clear hs hd hg
           go_simp
           exact ⟨Below.refl _ _, rfl⟩
          ·refine relOb_mk (o := ⟨some 81, _, _, _, _, _⟩) rfl (fun r V hc hf hg hs hb hd => ?_)
           have h9 : r (.tmp 80) = .pointer (some ⟨g, 1, none⟩) := hd 9 80 rfl (by kernel_rfl)
           clear hs hd hg
           go_simp
           exact ⟨Below.refl _ _, rfl⟩
         ·intro a V hb hx
          have h0 : a.eval (.tmp 71) = .pointer (some ⟨g, 0, none⟩) := hx 0 71 rfl rfl
          have h1 : a.eval (.tmp 72) = .pointer (some ⟨g, 0, none⟩) := hx 1 72 rfl rfl
          have h2 : a.eval (.tmp 73) = .pointer (some ⟨g, 1, none⟩) := hx 2 73 rfl rfl
          have h3 : a.eval (.tmp 74) = .pointer (some ⟨g, 1, none⟩) := hx 3 74 rfl rfl
          have h4 : a.eval (.tmp 75) = .int .u64 (s.lk : Int) := hx 4 75 rfl rfl
          have h5 : a.eval (.tmp 76) = .int .i64 (n : Int) := hx 5 76 rfl rfl
          have h6 : a.eval (.tmp 77) = .int .u64 (pw n : Int) := hx 6 77 rfl rfl
          have h7 : a.eval (.tmp 78) = .int .u64 ((withBit s.lk n : Nat) : Int) := hx 7 78 rfl rfl
          have h8 : a.eval (.tmp 79) = .pointer (some ⟨g, 0, none⟩) := hx 8 79 rfl rfl
          have h9 : a.eval (.tmp 80) = .pointer (some ⟨g, 1, none⟩) := hx 9 80 rfl rfl
          have h10 : a.eval (.tmp 81) = .pointer (some ⟨g, 1, none⟩) := hx 10 81 rfl rfl
          unfold fillAll
          simp only [List.foldl_cons, List.foldl_nil, h0, h1, h2, h3, h4, h5, h6, h7, h8, h9, h10, Act.put, List.setIfInBounds_toArray, List.set_cons_zero, List.set_cons_succ]
          clear h0 h1 h2 h3 h4 h5 h6 h7 h8 h9 h10 hx
          have HCV := Lib.hid (HC0.out.below hb)
          have HBV := Lib.hid (below_tr HB00.out (below_g hb HC0.out.gle))
          have HQRV := Lib.hid (blk_keep hb HQR0.out)
          clear hb
          refine wpAny_ready (rs := [11]) (by kernel_rfl) (by simp) (AllReady.cons (o := ⟨none, _, _, _, _, _⟩) rfl (fun K hK => ?_) AllReady.nil)
          have c0 := blk_cell HCV.out.blk 1 _ (cy_1 _ _ _ _)
          have f0 := blk_free HCV.out.blk 1
          have hl := blk_lt HCV.out.blk
          go_simp
          clear c0 f0 hl
          refine name_K ?_
          intro VZ hVZ
          have hput := HCV.out.put 1 _ (cs_1 _ _ _ _ _) (HOK1.out)
          rw [← hVZ] at hput
          have HCZ := Lib.hid hput.1
          have HBZ := Lib.hid (below_tr HBV.out hput.2)
          have HQRZ : Hid (VZ.heap[gr]? = some (.cells #[.int .i64 x.fi, .int .i64 x.ah, .slice x.tk.a t1 x.tk.c, .slice x.nd.a t2 x.nd.c, .slice x.cf.a t3 x.cf.c] 80)) := Lib.hid (by rw [hVZ]; exact blk_set_other HQRV.out 1 _ (fun e => HGR.out e.symm))
          clear hVZ hput HQRV HCV HBV
          refine hK _ _ ?_
          clear hK K
          refine wpAny_done (by kernel_rfl) ?_ _
          obtain ⟨nrow, hnrow⟩ : ∃ r, x.nd.a = r := ⟨_, rfl⟩
          have HNA := Lib.hid hnrow
          have c3 := blk_cell HQRZ.out 3 _ rfl
          have HST0 : Hid (Cy VZ g m M { s with lk := withBit s.lk n, pt := ptL (x.nd.l.take 0) s.pt } i u) := Lib.hid (by rw [ptL_zero]; exact HCZ.out)
          clear hnrow HCZ
          go_upto_region 9 with fail
          clear c3
          go_loopg [85] t2 (fun g9 v wr => ∃ k : Nat, k + g9 = t2 ∧ v = .int .i64 (k : Int) ∧ Cy wr g m M { s with lk := withBit s.lk n, pt := ptL (x.nd.l.take k) s.pt } i u ∧ Below g w wr)
          case atStart => exact ⟨0, by omega, rfl, HST0.out, HBZ.out⟩
          case round =>
           obtain ⟨k, hk, rfl, hcr, hbw⟩ := hrel
           have HK := Lib.hid hk
           have HCR := Lib.hid hcr
           have HBR := Lib.hid hbw
           clear hk hcr hbw HST0 HBZ HQRZ
           by_cases hlt : k < t2
           ·have d1 : (0 : Int) ≤ k := by omega
            have d2 : (k : Int) < t2 := by omega
            have e1 := k_succ hlt HTM.out
            have HLT := Lib.hid hlt
            obtain ⟨y, hy⟩ : ∃ y, x.nd.l[k]? = some y := ⟨_, List.getElem?_eq_getElem (by rw [HT2.out]; exact hlt)⟩
            obtain ⟨q', sg⟩ := y
            have hyb := HNB.out (q', sg) (List.mem_of_getElem? hy)
            obtain ⟨q, rfl⟩ : ∃ q : Nat, q' = q := ⟨q'.toNat, by dsimp only at hyb; omega⟩
            have HQ31 : Hid (q ≤ 31) := Lib.hid (by dsimp only at hyb; omega)
            obtain ⟨A, hA⟩ : ∃ A, ptL (x.nd.l.take k) s.pt = A := ⟨_, rfl⟩
            have HNX : Hid (ptL (x.nd.l.take (k + 1)) s.pt = if sg then withBit A q else woBit A q) := Lib.hid (by rw [ptL_succ hy, hA, Int.toNat_natCast])
            rw [hA] at HCR
            have HA32 : Hid (A < 4294967296) := Lib.hid HCR.out.sok.pt
            have hor := (HCR.out.mach.lns x HXM.out).nd.at_.row
            obtain ⟨X, hX⟩ : ∃ a, x.nd.a = a := ⟨_, rfl⟩
            have HXX := Lib.hid hX
            rw [hX] at hor ⊢
            rcases hor with hnil | ⟨nb, no, hnb, hnc⟩
            ·rw [hnil] at hy; cases hy
            subst hnb
            have y0 := hnc k _ hy 0 _ rfl
            have y1 := hnc k _ hy 1 _ rfl
            rw [Nat.add_zero] at y0
            clear hnc hX hy hyb hA hlt
            go_upto_region 11 with fail
            have hbn := below1 wr (.cells #[.int .i64 (q : Int), .bool sg] 55)
            have hqn := alloc1 wr (.cells #[.int .i64 (q : Int), .bool sg] 55) (Below.refl _ _)
            obtain ⟨VN, hVN⟩ : ∃ V, V = wr.alloc (.cells #[.int .i64 (q : Int), .bool sg] 55) := ⟨_, rfl⟩
            rw [← hVN] at hbn hqn ⊢
            obtain ⟨gx, hgx⟩ : ∃ g, g = wr.heap.size := ⟨_, rfl⟩
            rw [← hgx] at hqn ⊢
            have HQX := Lib.hid hqn
            have HCN := Lib.hid (HCR.out.below hbn)
            have HBN := Lib.hid (below_tr HBR.out (below_g hbn HCR.out.gle))
            have HPT : Hid ((cyL m { s with lk := withBit s.lk n, pt := A } i u).toArray[68]? = some (.int .u32 (A : Int))) := Lib.hid (cy_pt _ _ _ _)
            have c1 := blk_cell hqn 1 _ rfl
            clear hbn hqn hVN hgx y0 y1 HCR HBR
            cases sg with
            | true =>
              have HOKN : Hid (St.ok { s with lk := withBit s.lk n, pt := withBit A q }) := Lib.hid ⟨HOK1.out.lk, HOK1.out.us, HOK1.out.ca, HOK1.out.tm, withBit_lt32 HQ31.out HA32.out⟩
              go_upto_region 12 with fail
              clear c1
              refine wp_region_rel (by kernel_rfl) [12] 15 [0, 1, 2, 3, 4, 5, 6, 7, 8, 9, 10, 11] [91, 92, 93, 94, 95, 96, 97, 98, 99, 100, 101, 102] #[true, true, true, true, true, true, true, true, true, true, true, true, false] 1 [(fun v _ => v = .pointer (some ⟨g, 0, none⟩)), (fun v _ => v = .pointer (some ⟨g, 0, none⟩)), (fun v _ => v = .pointer (some ⟨g, 1, none⟩)), (fun v _ => v = .pointer (some ⟨g, 68, none⟩)), (fun v _ => v = .int .u32 (A : Int)), (fun v _ => v = .pointer (some ⟨gx, 0, none⟩)), (fun v _ => v = .int .i64 (q : Int)), (fun v _ => v = .int .u32 ((pw q : Nat) : Int)), (fun v _ => v = .int .u32 ((withBit A q : Nat) : Int)), (fun v _ => v = .pointer (some ⟨g, 0, none⟩)), (fun v _ => v = .pointer (some ⟨g, 1, none⟩)), (fun v _ => v = .pointer (some ⟨g, 68, none⟩)), (fun _ _ => True)] (by kernel_rfl) (by kernel_rfl) (by kernel_rfl) (by kernel_rfl) (by kernel_rfl) rfl (by kernel_rfl) rfl ?_ ?_ ?_
              ·exact ⟨stays_is _, stays_is _, stays_is _, stays_is _, stays_is _, stays_is _, stays_is _, stays_is _, stays_is _, stays_is _, stays_is _, stays_is _, stays_true, trivial⟩
              ·refine ⟨?_, ?_, ?_, ?_, ?_, ?_, ?_, ?_, ?_, ?_, ?_, ?_, trivial⟩
               ·refine relOb_mk (o := ⟨some 91, _, _, _, _, _⟩) rfl (fun r V hc hf hg hs hb hd => ?_)
                have x0 : r (.tmp 0) = .pointer (some ⟨g, 0, none⟩) := hs 0 (by kernel_rfl)
                clear hs hd hg
                go_simp
                exact ⟨Below.refl _ _, rfl⟩
               ·refine relOb_mk (o := ⟨some 92, _, _, _, _, _⟩) rfl (fun r V hc hf hg hs hb hd => ?_)
                have h0 : r (.tmp 91) = .pointer (some ⟨g, 0, none⟩) := hd 0 91 rfl (by kernel_rfl)
                clear hs hd hg
                go_simp
                exact ⟨Below.refl _ _, rfl⟩
               ·refine relOb_mk (o := ⟨some 93, _, _, _, _, _⟩) rfl (fun r V hc hf hg hs hb hd => ?_)
                have h1 : r (.tmp 92) = .pointer (some ⟨g, 0, none⟩) := hd 1 92 rfl (by kernel_rfl)
                clear hs hd hg
                go_simp
                exact ⟨Below.refl _ _, rfl⟩
               ·refine relOb_mk (o := ⟨some 94, _, _, _, _, _⟩) rfl (fun r V hc hf hg hs hb hd => ?_)
                have h2 : r (.tmp 93) = .pointer (some ⟨g, 1, none⟩) := hd 2 93 rfl (by kernel_rfl)
                clear hs hd hg
                go_simp
                exact ⟨Below.refl _ _, rfl⟩
               ·refine relOb_mk (o := ⟨some 95, _, _, _, _, _⟩) rfl (fun r V hc hf hg hs hb hd => ?_)
                have h3 : r (.tmp 94) = .pointer (some ⟨g, 68, none⟩) := hd 3 94 rfl (by kernel_rfl)
                clear hs hd hg
                have l := blk_cell (HCN.out.below hb).blk 68 _ (HPT.out)
                go_simp
                exact ⟨Below.refl _ _, rfl⟩
               ·refine relOb_mk (o := ⟨some 96, _, _, _, _, _⟩) rfl (fun r V hc hf hg hs hb hd => ?_)
                have x8 : r (.tmp 8) = .pointer (some ⟨gx, 0, none⟩) := hs 8 (by kernel_rfl)
                clear hs hd hg
                go_simp
                exact ⟨Below.refl _ _, rfl⟩
               ·refine relOb_mk (o := ⟨some 97, _, _, _, _, _⟩) rfl (fun r V hc hf hg hs hb hd => ?_)
                have h5 : r (.tmp 96) = .pointer (some ⟨gx, 0, none⟩) := hd 5 96 rfl (by kernel_rfl)
                clear hs hd hg
                have l := blk_cell (blk_keep hb HQX.out) 0 _ rfl
                go_simp
                exact ⟨Below.refl _ _, rfl⟩
               ·refine relOb_mk (o := ⟨some 98, _, _, _, _, _⟩) rfl (fun r V hc hf hg hs hb hd => ?_)
                have h6 : r (.tmp 97) = .int .i64 (q : Int) := hd 6 97 rfl (by kernel_rfl)
                clear hs hd hg
                have h31 := HQ31.out
                have h0 : (0 : Int) ≤ q := by omega
                have h1 : min q 32 = q := by omega
                have h2 : ¬ (32 : Int) ≤ q := by omega
                have hs1 := shl32 h31
                go_simp
                exact ⟨Below.refl _ _, by simp⟩
               ·refine relOb_mk (o := ⟨some 99, _, _, _, _, _⟩) rfl (fun r V hc hf hg hs hb hd => ?_)
                have h4 : r (.tmp 95) = .int .u32 (A : Int) := hd 4 95 rfl (by kernel_rfl)
                have h7 : r (.tmp 98) = .int .u32 ((pw q : Nat) : Int) := hd 7 98 rfl (by kernel_rfl)
                clear hs hd hg
                have ho1 := or_step32 HQ31.out HA32.out
                go_simp
                exact ⟨Below.refl _ _, rfl⟩
               ·refine relOb_mk (o := ⟨some 100, _, _, _, _, _⟩) rfl (fun r V hc hf hg hs hb hd => ?_)
                have h0 : r (.tmp 91) = .pointer (some ⟨g, 0, none⟩) := hd 0 91 rfl (by kernel_rfl)
                clear hs hd hg
                go_simp
                exact ⟨Below.refl _ _, rfl⟩
               ·refine relOb_mk (o := ⟨some 101, _, _, _, _, _⟩) rfl (fun r V hc hf hg hs hb hd => ?_)
                have h9 : r (.tmp 100) = .pointer (some ⟨g, 0, none⟩) := hd 9 100 rfl (by kernel_rfl)
                clear hs hd hg
                go_simp
                exact ⟨Below.refl _ _, rfl⟩
               ·refine relOb_mk (o := ⟨some 102, _, _, _, _, _⟩) rfl (fun r V hc hf hg hs hb hd => ?_)
                have h10 : r (.tmp 101) = .pointer (some ⟨g, 1, none⟩) := hd 10 101 rfl (by kernel_rfl)
                clear hs hd hg
                go_simp
                exact ⟨Below.refl _ _, rfl⟩
              ·intro a V hb hx
               have h0 : a.eval (.tmp 91) = .pointer (some ⟨g, 0, none⟩) := hx 0 91 rfl rfl
               have h1 : a.eval (.tmp 92) = .pointer (some ⟨g, 0, none⟩) := hx 1 92 rfl rfl
               have h2 : a.eval (.tmp 93) = .pointer (some ⟨g, 1, none⟩) := hx 2 93 rfl rfl
               have h3 : a.eval (.tmp 94) = .pointer (some ⟨g, 68, none⟩) := hx 3 94 rfl rfl
               have h4 : a.eval (.tmp 95) = .int .u32 (A : Int) := hx 4 95 rfl rfl
               have h5 : a.eval (.tmp 96) = .pointer (some ⟨gx, 0, none⟩) := hx 5 96 rfl rfl
               have h6 : a.eval (.tmp 97) = .int .i64 (q : Int) := hx 6 97 rfl rfl
               have h7 : a.eval (.tmp 98) = .int .u32 ((pw q : Nat) : Int) := hx 7 98 rfl rfl
               have h8 : a.eval (.tmp 99) = .int .u32 ((withBit A q : Nat) : Int) := hx 8 99 rfl rfl
               have h9 : a.eval (.tmp 100) = .pointer (some ⟨g, 0, none⟩) := hx 9 100 rfl rfl
               have h10 : a.eval (.tmp 101) = .pointer (some ⟨g, 1, none⟩) := hx 10 101 rfl rfl
               have h11 : a.eval (.tmp 102) = .pointer (some ⟨g, 68, none⟩) := hx 11 102 rfl rfl
               unfold fillAll
               simp only [List.foldl_cons, List.foldl_nil, h0, h1, h2, h3, h4, h5, h6, h7, h8, h9, h10, h11, Act.put, List.setIfInBounds_toArray, List.set_cons_zero, List.set_cons_succ]
               clear h0 h1 h2 h3 h4 h5 h6 h7 h8 h9 h10 h11 hx
               have HCV := Lib.hid (HCN.out.below hb)
               have HBV := Lib.hid (below_tr HBN.out (below_g hb HCN.out.gle))
               clear hb
               refine wpAny_ready (rs := [12]) (by kernel_rfl) (by simp) (AllReady.cons (o := ⟨none, _, _, _, _, _⟩) rfl (fun K hK => ?_) AllReady.nil)
               have c0 := blk_cell HCV.out.blk 68 _ (HPT.out)
               have f0 := blk_free HCV.out.blk 68
               have hl := blk_lt HCV.out.blk
               go_simp
               clear c0 f0 hl
               refine name_K ?_
               intro VZ hVZ
               have hput := HCV.out.put 68 _ (cs_pt _ _ _ _ (withBit A q)) (HOKN.out)
               rw [← hVZ] at hput
               have HCZ := Lib.hid hput.1
               have HBZ := Lib.hid (below_tr HBV.out hput.2)
               clear hVZ hput HCV HBV
               refine hK _ _ ?_
               clear hK K
               refine wpAny_done (by kernel_rfl) ?_ _
               go_wp2_with fail
               rw [← HXX.out]
               go_roundg (t2 - (k + 1))
               case rel => exact ⟨k + 1, k_next HK.out HLT.out, by go_num, by rw [HNX.out]; exact HCZ.out, HBZ.out⟩
               case measure => exact k_less HK.out HLT.out
            | false =>
              have HOKN : Hid (St.ok { s with lk := withBit s.lk n, pt := woBit A q }) := Lib.hid ⟨HOK1.out.lk, HOK1.out.us, HOK1.out.ca, HOK1.out.tm, woBit_lt32 HA32.out⟩
              go_upto_region 13 with fail
              clear c1
              refine wp_region_rel (by kernel_rfl) [12] 15 [0, 1, 2, 3, 4, 5, 6, 7, 8, 9, 10, 11] [103, 104, 105, 106, 107, 108, 109, 110, 111, 112, 113, 114] #[true, true, true, true, true, true, true, true, true, true, true, true, false] 1 [(fun v _ => v = .pointer (some ⟨g, 0, none⟩)), (fun v _ => v = .pointer (some ⟨g, 0, none⟩)), (fun v _ => v = .pointer (some ⟨g, 1, none⟩)), (fun v _ => v = .pointer (some ⟨g, 68, none⟩)), (fun v _ => v = .int .u32 (A : Int)), (fun v _ => v = .pointer (some ⟨gx, 0, none⟩)), (fun v _ => v = .int .i64 (q : Int)), (fun v _ => v = .int .u32 ((pw q : Nat) : Int)), (fun v _ => v = .int .u32 ((woBit A q : Nat) : Int)), (fun v _ => v = .pointer (some ⟨g, 0, none⟩)), (fun v _ => v = .pointer (some ⟨g, 1, none⟩)), (fun v _ => v = .pointer (some ⟨g, 68, none⟩)), (fun _ _ => True)] (by kernel_rfl) (by kernel_rfl) (by kernel_rfl) (by kernel_rfl) (by kernel_rfl) rfl (by kernel_rfl) rfl ?_ ?_ ?_
              ·exact ⟨stays_is _, stays_is _, stays_is _, stays_is _, stays_is _, stays_is _, stays_is _, stays_is _, stays_is _, stays_is _, stays_is _, stays_is _, stays_true, trivial⟩
              ·refine ⟨?_, ?_, ?_, ?_, ?_, ?_, ?_, ?_, ?_, ?_, ?_, ?_, trivial⟩
               ·refine relOb_mk (o := ⟨some 103, _, _, _, _, _⟩) rfl (fun r V hc hf hg hs hb hd => ?_)
                have x0 : r (.tmp 0) = .pointer (some ⟨g, 0, none⟩) := hs 0 (by kernel_rfl)
                clear hs hd hg
                go_simp
                exact ⟨Below.refl _ _, rfl⟩
               ·refine relOb_mk (o := ⟨some 104, _, _, _, _, _⟩) rfl (fun r V hc hf hg hs hb hd => ?_)
                have h0 : r (.tmp 103) = .pointer (some ⟨g, 0, none⟩) := hd 0 103 rfl (by kernel_rfl)
                clear hs hd hg
                go_simp
                exact ⟨Below.refl _ _, rfl⟩
               ·refine relOb_mk (o := ⟨some 105, _, _, _, _, _⟩) rfl (fun r V hc hf hg hs hb hd => ?_)
                have h1 : r (.tmp 104) = .pointer (some ⟨g, 0, none⟩) := hd 1 104 rfl (by kernel_rfl)
                clear hs hd hg
                go_simp
                exact ⟨Below.refl _ _, rfl⟩
               ·refine relOb_mk (o := ⟨some 106, _, _, _, _, _⟩) rfl (fun r V hc hf hg hs hb hd => ?_)
                have h2 : r (.tmp 105) = .pointer (some ⟨g, 1, none⟩) := hd 2 105 rfl (by kernel_rfl)
                clear hs hd hg
                go_simp
                exact ⟨Below.refl _ _, rfl⟩
               ·refine relOb_mk (o := ⟨some 107, _, _, _, _, _⟩) rfl (fun r V hc hf hg hs hb hd => ?_)
                have h3 : r (.tmp 106) = .pointer (some ⟨g, 68, none⟩) := hd 3 106 rfl (by kernel_rfl)
                clear hs hd hg
                have l := blk_cell (HCN.out.below hb).blk 68 _ (HPT.out)
                go_simp
                exact ⟨Below.refl _ _, rfl⟩
               ·refine relOb_mk (o := ⟨some 108, _, _, _, _, _⟩) rfl (fun r V hc hf hg hs hb hd => ?_)
                have x8 : r (.tmp 8) = .pointer (some ⟨gx, 0, none⟩) := hs 8 (by kernel_rfl)
                clear hs hd hg
                go_simp
                exact ⟨Below.refl _ _, rfl⟩
               ·refine relOb_mk (o := ⟨some 109, _, _, _, _, _⟩) rfl (fun r V hc hf hg hs hb hd => ?_)
                have h5 : r (.tmp 108) = .pointer (some ⟨gx, 0, none⟩) := hd 5 108 rfl (by kernel_rfl)
                clear hs hd hg
                have l := blk_cell (blk_keep hb HQX.out) 0 _ rfl
                go_simp
                exact ⟨Below.refl _ _, rfl⟩
               ·refine relOb_mk (o := ⟨some 110, _, _, _, _, _⟩) rfl (fun r V hc hf hg hs hb hd => ?_)
                have h6 : r (.tmp 109) = .int .i64 (q : Int) := hd 6 109 rfl (by kernel_rfl)
                clear hs hd hg
                have h31 := HQ31.out
                have h0 : (0 : Int) ≤ q := by omega
                have h1 : min q 32 = q := by omega
                have h2 : ¬ (32 : Int) ≤ q := by omega
                have hs1 := shl32 h31
                go_simp
                exact ⟨Below.refl _ _, by simp⟩
               ·refine relOb_mk (o := ⟨some 111, _, _, _, _, _⟩) rfl (fun r V hc hf hg hs hb hd => ?_)
                have h4 : r (.tmp 107) = .int .u32 (A : Int) := hd 4 107 rfl (by kernel_rfl)
                have h7 : r (.tmp 110) = .int .u32 ((pw q : Nat) : Int) := hd 7 110 rfl (by kernel_rfl)
                clear hs hd hg
                have ho1 := wo_step32 HQ31.out HA32.out
                go_simp
                exact ⟨Below.refl _ _, rfl⟩
               ·refine relOb_mk (o := ⟨some 112, _, _, _, _, _⟩) rfl (fun r V hc hf hg hs hb hd => ?_)
                have h0 : r (.tmp 103) = .pointer (some ⟨g, 0, none⟩) := hd 0 103 rfl (by kernel_rfl)
                clear hs hd hg
                go_simp
                exact ⟨Below.refl _ _, rfl⟩
               ·refine relOb_mk (o := ⟨some 113, _, _, _, _, _⟩) rfl (fun r V hc hf hg hs hb hd => ?_)
                have h9 : r (.tmp 112) = .pointer (some ⟨g, 0, none⟩) := hd 9 112 rfl (by kernel_rfl)
                clear hs hd hg
                go_simp
                exact ⟨Below.refl _ _, rfl⟩
               ·refine relOb_mk (o := ⟨some 114, _, _, _, _, _⟩) rfl (fun r V hc hf hg hs hb hd => ?_)
                have h10 : r (.tmp 113) = .pointer (some ⟨g, 1, none⟩) := hd 10 113 rfl (by kernel_rfl)
                clear hs hd hg
                go_simp
                exact ⟨Below.refl _ _, rfl⟩
              ·intro a V hb hx
               have h0 : a.eval (.tmp 103) = .pointer (some ⟨g, 0, none⟩) := hx 0 103 rfl rfl
               have h1 : a.eval (.tmp 104) = .pointer (some ⟨g, 0, none⟩) := hx 1 104 rfl rfl
               have h2 : a.eval (.tmp 105) = .pointer (some ⟨g, 1, none⟩) := hx 2 105 rfl rfl
               have h3 : a.eval (.tmp 106) = .pointer (some ⟨g, 68, none⟩) := hx 3 106 rfl rfl
               have h4 : a.eval (.tmp 107) = .int .u32 (A : Int) := hx 4 107 rfl rfl
               have h5 : a.eval (.tmp 108) = .pointer (some ⟨gx, 0, none⟩) := hx 5 108 rfl rfl
               have h6 : a.eval (.tmp 109) = .int .i64 (q : Int) := hx 6 109 rfl rfl
               have h7 : a.eval (.tmp 110) = .int .u32 ((pw q : Nat) : Int) := hx 7 110 rfl rfl
               have h8 : a.eval (.tmp 111) = .int .u32 ((woBit A q : Nat) : Int) := hx 8 111 rfl rfl
               have h9 : a.eval (.tmp 112) = .pointer (some ⟨g, 0, none⟩) := hx 9 112 rfl rfl
               have h10 : a.eval (.tmp 113) = .pointer (some ⟨g, 1, none⟩) := hx 10 113 rfl rfl
               have h11 : a.eval (.tmp 114) = .pointer (some ⟨g, 68, none⟩) := hx 11 114 rfl rfl
               unfold fillAll
               simp only [List.foldl_cons, List.foldl_nil, h0, h1, h2, h3, h4, h5, h6, h7, h8, h9, h10, h11, Act.put, List.setIfInBounds_toArray, List.set_cons_zero, List.set_cons_succ]
               clear h0 h1 h2 h3 h4 h5 h6 h7 h8 h9 h10 h11 hx
               have HCV := Lib.hid (HCN.out.below hb)
               have HBV := Lib.hid (below_tr HBN.out (below_g hb HCN.out.gle))
               clear hb
               refine wpAny_ready (rs := [12]) (by kernel_rfl) (by simp) (AllReady.cons (o := ⟨none, _, _, _, _, _⟩) rfl (fun K hK => ?_) AllReady.nil)
               have c0 := blk_cell HCV.out.blk 68 _ (HPT.out)
               have f0 := blk_free HCV.out.blk 68
               have hl := blk_lt HCV.out.blk
               go_simp
               clear c0 f0 hl
               refine name_K ?_
               intro VZ hVZ
               have hput := HCV.out.put 68 _ (cs_pt _ _ _ _ (woBit A q)) (HOKN.out)
               rw [← hVZ] at hput
               have HCZ := Lib.hid hput.1
               have HBZ := Lib.hid (below_tr HBV.out hput.2)
               clear hVZ hput HCV HBV
               refine hK _ _ ?_
               clear hK K
               refine wpAny_done (by kernel_rfl) ?_ _
               go_wp2_with fail
               rw [← HXX.out]
               go_roundg (t2 - (k + 1))
               case rel => exact ⟨k + 1, k_next HK.out HLT.out, by go_num, by rw [HNX.out]; exact HCZ.out, HBZ.out⟩
               case measure => exact k_less HK.out HLT.out
           ·have d2 : ¬ (k : Int) < t2 := by omega
            have HEND : Hid (ptL (x.nd.l.take k) s.pt = ptL x.nd.l s.pt) := Lib.hid (by rw [show k = t2 by have := HK.out; omega]; exact ptL_end HT2.out _)
            clear hlt
            go_wp2_with fail
            go_end0
            rw [HYES.out (by simp [HNN.out])]
            exact ⟨rfl, HEND.out ▸ HCR.out, HBR.out⟩
end Go.Proofs.Ytpohoannggdbjaa
