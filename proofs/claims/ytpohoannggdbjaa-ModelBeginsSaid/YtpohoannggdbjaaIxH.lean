/-
 Layer 10: route, proceeds.
-/
import Derived.Test.YtpohoannggdbjaaIxG
namespace Go.Proofs.Ytpohoannggdbjaa
open Go.RowKit
set_option maxRecDepth 100000
theorem rel_is (s : St) (n : Nat) : relS s n = { s with lk := woBit s.lk n, us := woBit s.us n, ca := woBit s.ca n, tm := upd s.tm n 0 } := rfl
theorem rou_1 {s : St} {oc u n : Nat} {x : Rw} (h : hasBit u n = true) : rouS s oc u n x = if freeS oc x then relS s n else s := by unfold rouS; rw [h]; rfl
theorem rou_2 {s : St} {oc u n : Nat} {x : Rw} (h : hasBit u n = false) (h2 : hasBit oc x.fi.toNat = true) : rouS s oc u n x = { s with us := withBit s.us n } := by unfold rouS; rw [h, h2]; rfl
theorem rou_3 {s : St} {oc u n : Nat} {x : Rw} (h : hasBit u n = false) (h2 : hasBit oc x.fi.toNat = false) (h3 : hasBit s.ca n = false) : rouS s oc u n x = s := by unfold rouS; rw [h, h2, h3]; rfl
theorem rou_4 {s : St} {oc u n : Nat} {x : Rw} (h : hasBit u n = false) (h2 : hasBit oc x.fi.toNat = false) (h3 : hasBit s.ca n = true) (h4 : 0 < s.tm n) : rouS s oc u n x = { s with tm := upd s.tm n (s.tm n - 1) } := by unfold rouS; rw [h, h2, h3, if_pos h4]; rfl
theorem rou_5 {s : St} {oc u n : Nat} {x : Rw} (h : hasBit u n = false) (h2 : hasBit oc x.fi.toNat = false) (h3 : hasBit s.ca n = true) (h4 : ¬ 0 < s.tm n) : rouS s oc u n x = if freeS oc x then relS s n else s := by unfold rouS; rw [h, h2, h3, if_neg h4]; rfl
theorem pro_is (s : St) (oc a b n : Nat) (x : Rw) : proS s oc a b n x = (hasBit s.lk n && (!hasBit s.us n && !hasBit s.ca n) && (freeS oc x && !x.nd.any (fun m => !hasBit (if m.2 then b else a) m.1.toNat))) := by
 unfold proS mayCan
 rw [List.all_eq_not_any_not]
theorem side_form {n r : Nat} (hn : n < 4294967296) (hr : r < 4294967296) : bits .andNot .u32 (n : Int) (r : Int) = ((sideN n r : Nat) : Int) := u32_andNot_nat n r hn hr
theorem side_lt32 {n r : Nat} (hn : n < 4294967296) : sideN n r < 4294967296 := Nat.lt_of_le_of_lt Nat.and_le_left hn
attribute [local irreducible] Sl.v hasBit pw withBit woBit cyL stL stV tmL freeS ndBad maySet ptL setS mayCan canS canD nedS flipB mayMov movS comG relS rouS proS tidyS comsG rousS prosS nextG outS lnOk rightK rgtS eqS Mc.tb upd mayS checkS sideN
set_option maxHeartbeats 16000000 in
theorem route_is (g m u : Nat) (M : Mc) (s : St) (i : Inp) (w : World) (hC : Cy w g m M s i u) (n : Nat) (x : Ln) (hx : M.ln.l[n]? = some x) :
 Calls Try.prog 20 #[.pointer (some ⟨g, 0, none⟩), .int .i64 (n : Int)] w fun e w' => e = .returned (.tuple #[]) ∧ Cy w' g m M (rouS s i.oc u n x.rw) i u ∧ Below g w w' := by
 have h63 : n ≤ 63 := by have h1 := (List.getElem?_eq_some_iff.1 hx).1; have h2 := hC.tb.rn; rw [tb_len] at h2; omega
 obtain ⟨bu, hbu⟩ : ∃ b, hasBit u n = b := ⟨_, rfl⟩
 obtain ⟨bf, hbf⟩ : ∃ b, freeS i.oc x.rw = b := ⟨_, rfl⟩
 obtain ⟨bi, hbi⟩ : ∃ b, hasBit i.oc x.fi.toNat = b := ⟨_, rfl⟩
 obtain ⟨bc, hbc⟩ : ∃ b, hasBit s.ca n = b := ⟨_, rfl⟩
 have hs := hC.sok
 have HSO := Lib.hid hs
 have wl := fun (x k : Nat) (h : x < 18446744073709551616) => Nat.lt_of_le_of_lt (woBit_le x k) h
 have HOK1 : Hid (St.ok { s with lk := woBit s.lk n }) := Lib.hid ⟨wl _ _ hs.lk, hs.us, hs.ca, hs.tm, hs.pt⟩
 have HOK2 : Hid (St.ok { s with lk := woBit s.lk n, us := woBit s.us n }) := Lib.hid ⟨wl _ _ hs.lk, wl _ _ hs.us, hs.ca, hs.tm, hs.pt⟩
 have HOK3 : Hid (St.ok { s with lk := woBit s.lk n, us := woBit s.us n, ca := woBit s.ca n }) := Lib.hid ⟨wl _ _ hs.lk, wl _ _ hs.us, wl _ _ hs.ca, hs.tm, hs.pt⟩
 have HOK4 : Hid (St.ok { s with lk := woBit s.lk n, us := woBit s.us n, ca := woBit s.ca n, tm := upd s.tm n 0 }) := Lib.hid ⟨wl _ _ hs.lk, wl _ _ hs.us, wl _ _ hs.ca, upd_le hs.tm n (by omega), hs.pt⟩
 have HOKU : Hid (St.ok { s with us := withBit s.us n }) := Lib.hid ⟨hs.lk, withBit_lt _ _ h63 hs.us, hs.ca, hs.tm, hs.pt⟩
 have HN63 := Lib.hid h63
 have HN64 : Hid (n < 64) := Lib.hid (by omega)
 have HF : Hid (hasBit i.oc x.rw.fi.toNat = bi) := Lib.hid hbi
 have HU := Lib.hid hbu
 have HCA := Lib.hid hbc
 have HFR := Lib.hid hbf
 obtain ⟨N1, hN1⟩ : ∃ k, M.ln.l.length = k := ⟨_, rfl⟩
 have cm0 := blk_cell hC.mach.blk 0 _ rfl
 rw [slv hN1] at cm0
 have hlt1 : n < N1 := by rw [← hN1]; exact (List.getElem?_eq_some_iff.1 hx).1
 have hle1 : N1 ≤ 64 := by have := hC.tb.rn; rw [tb_len, hN1] at this; exact this
 have hok1 := ln_ok hC.tb hx
 obtain ⟨LC, hLC⟩ : ∃ c, M.ln.c = c := ⟨_, rfl⟩
 obtain ⟨LA, hLA⟩ : ∃ a, M.ln.a = a := ⟨_, rfl⟩
 have hlrow := hC.mach.ln.at_.row
 rw [hLA] at hlrow
 rw [hLA, hLC] at cm0
 rcases hlrow with hnil | ⟨lb, lo, hlb, hlc⟩
 ·rw [hnil] at hx; cases hx
 rw [hlb] at cm0
 have HLC := Lib.hid (fun j v hv => hlc n x hx j v hv)
 have hz := HLC.out
 have z0 := hz 0 _ rfl
 have z1 := hz 1 _ rfl
 have z2 := hz 2 _ rfl
 have z3 := hz 3 _ rfl
 have z4 := hz 4 _ rfl
 rw [Nat.add_zero] at z0
 obtain ⟨t1, ht1⟩ : ∃ k, x.tk.l.length = k := ⟨_, rfl⟩
 obtain ⟨t2, ht2⟩ : ∃ k, x.nd.l.length = k := ⟨_, rfl⟩
 obtain ⟨t3, ht3⟩ : ∃ k, x.cf.l.length = k := ⟨_, rfl⟩
 rw [slv ht1] at z2
 rw [slv ht2] at z3
 rw [slv ht3] at z4
 clear hz
 have hl0 := blk_cell hC.blk 0 _ (cy_0 _ _ _ _)
 have HIU : Hid (∀ V, Calls Try.prog 32 #[.int .u64 (u : Int), .int .i64 (n : Int)] V fun e w' => e = .returned (.bool bu) ∧ V = w') := Lib.hid (fun V => in_is bu u n V h63 hC.uok hbu)
 have HIC : Hid (∀ V, Calls Try.prog 32 #[.int .u64 (s.ca : Int), .int .i64 (n : Int)] V fun e w' => e = .returned (.bool bc) ∧ V = w') := Lib.hid (fun V => in_is bc s.ca n V h63 hs.ca hbc)
 have HFREE : Hid (∀ V, Below w.heap.size w V → Calls Try.prog 36 #[.pointer (some ⟨g, 0, none⟩), .int .i64 (n : Int)] V fun e w' => e = .returned (.bool bf) ∧ Below V.heap.size V w') := Lib.hid (fun V hV => free_is bf g m u M s i V (hC.below hV) n x hx hbf)
 have HCLR : Hid (∀ V, Below w.heap.size w V → Calls Try.prog 37 #[.pointer (some ⟨g, 0, none⟩), .int .i64 x.fi] V fun e w' => e = .returned (.bool (!bi)) ∧ Below V.heap.size V w') := Lib.hid (fun V hV => clear_is bi g m u M s i V (hC.below hV) x.fi hok1.fi hbi)
 have HC := Lib.hid hC
 have d1 : (0 : Int) ≤ n := by omega
 have d2 : (n : Int) < N1 := by omega
 clear hbu hbf hbi hbc hs h63 hC hx hlc hok1 hlb hLA hLC hN1 hle1 hlt1 ht1 ht2 ht3 wl
 go_enter Try.func20, Try.ntmps20
 go_upto_region 3 with fail
 have hbn := below1 w (.cells #[.int .i64 x.fi, .int .i64 x.ah, .slice x.tk.a t1 x.tk.c, .slice x.nd.a t2 x.nd.c, .slice x.cf.a t3 x.cf.c] 80)
 have hqn := alloc1 w (.cells #[.int .i64 x.fi, .int .i64 x.ah, .slice x.tk.a t1 x.tk.c, .slice x.nd.a t2 x.nd.c, .slice x.cf.a t3 x.cf.c] 80) (Below.refl _ _)
 obtain ⟨V, hV⟩ : ∃ V, V = w.alloc (.cells #[.int .i64 x.fi, .int .i64 x.ah, .slice x.tk.a t1 x.tk.c, .slice x.nd.a t2 x.nd.c, .slice x.cf.a t3 x.cf.c] 80) := ⟨_, rfl⟩
 rw [← hV] at hbn hqn ⊢
 obtain ⟨gr, hgr⟩ : ∃ g, g = w.heap.size := ⟨_, rfl⟩
 rw [← hgr] at hqn ⊢
 have HB0 := Lib.hid hbn
 have HQR := Lib.hid hqn
 have q0 := blk_cell (blk_keep hbn HC.out.blk) 73 _ (cy_us _ _ _ _)
 clear hbn hqn hV hgr z0 z1 z2 z3 z4 hl0 cm0 d1 d2
 go_wp2_with fail
 refine (HIU.out _).mono ?_
 rintro e w' ⟨rfl, rfl⟩
 clear HIU
 cases bu with
 | true =>
   clear HCLR HIC q0
   go_wp2_with fail
   refine (HFREE.out _ HB0.out).mono ?_
   rintro e w1 ⟨rfl, hb⟩
   have HC1 := Lib.hid (HC.out.below (below_on HB0.out hb))
   have HB1 := Lib.hid (below_g (below_on HB0.out hb) HC.out.gle)
   clear hb HB0 HFREE HQR
   cases bf with
   | true =>
     go_upto_region 11 with fail
     refine wp_region_rel (by kernel_rfl) [11] 14 [0, 1, 2, 3, 4, 5, 6, 7, 8, 9, 10] [77, 78, 79, 80, 81, 82, 83, 84, 85, 86, 87] #[true, true, true, true, true, true, true, true, true, true, true, false] 1 [(fun v _ => v = .pointer (some ⟨g, 0, none⟩)), (fun v _ => v = .pointer (some ⟨g, 0, none⟩)), (fun v _ => v = .pointer (some ⟨g, 1, none⟩)), (fun v _ => v = .pointer (some ⟨g, 1, none⟩)), (fun v _ => v = .int .u64 (s.lk : Int)), (fun v _ => v = .int .i64 (n : Int)), (fun v _ => v = .int .u64 (pw n : Int)), (fun v _ => v = .int .u64 ((woBit s.lk n : Nat) : Int)), (fun v _ => v = .pointer (some ⟨g, 0, none⟩)), (fun v _ => v = .pointer (some ⟨g, 1, none⟩)), (fun v _ => v = .pointer (some ⟨g, 1, none⟩)), (fun _ _ => True)] (by kernel_rfl) (by kernel_rfl) (by kernel_rfl) (by kernel_rfl) (by kernel_rfl) rfl (by kernel_rfl) rfl ?_ ?_ ?_
     ·exact ⟨stays_is _, stays_is _, stays_is _, stays_is _, stays_is _, stays_is _, stays_is _, stays_is _, stays_is _, stays_is _, stays_is _, stays_true, trivial⟩
     ·refine ⟨?_, ?_, ?_, ?_, ?_, ?_, ?_, ?_, ?_, ?_, ?_, trivial⟩
      ·refine relOb_mk (o := ⟨some 77, _, _, _, _, _⟩) rfl (fun r V hc hf hg hs hb hd => ?_)
       have x0 : r (.tmp 0) = .pointer (some ⟨g, 0, none⟩) := hs 0 (by kernel_rfl)
       clear hs hd hg
       go_simp
       exact ⟨Below.refl _ _, rfl⟩
      ·refine relOb_mk (o := ⟨some 78, _, _, _, _, _⟩) rfl (fun r V hc hf hg hs hb hd => ?_)
       have h0 : r (.tmp 77) = .pointer (some ⟨g, 0, none⟩) := hd 0 77 rfl (by kernel_rfl)
       clear hs hd hg
       go_simp
       exact ⟨Below.refl _ _, rfl⟩
      ·refine relOb_mk (o := ⟨some 79, _, _, _, _, _⟩) rfl (fun r V hc hf hg hs hb hd => ?_)
       have h1 : r (.tmp 78) = .pointer (some ⟨g, 0, none⟩) := hd 1 78 rfl (by kernel_rfl)
       clear hs hd hg
       go_simp
       exact ⟨Below.refl _ _, rfl⟩
      ·refine relOb_mk (o := ⟨some 80, _, _, _, _, _⟩) rfl (fun r V hc hf hg hs hb hd => ?_)
       have h2 : r (.tmp 79) = .pointer (some ⟨g, 1, none⟩) := hd 2 79 rfl (by kernel_rfl)
       clear hs hd hg
       go_simp
       exact ⟨Below.refl _ _, rfl⟩
      ·refine relOb_mk (o := ⟨some 81, _, _, _, _, _⟩) rfl (fun r V hc hf hg hs hb hd => ?_)
       have h3 : r (.tmp 80) = .pointer (some ⟨g, 1, none⟩) := hd 3 80 rfl (by kernel_rfl)
       clear hs hd hg
       have l := blk_cell (HC1.out.below hb).blk 1 _ (cy_1 _ _ _ _)
       go_simp
       exact ⟨Below.refl _ _, rfl⟩
      ·refine relOb_mk (o := ⟨some 82, _, _, _, _, _⟩) rfl (fun r V hc hf hg hs hb hd => ?_)
       have x1 : r (.tmp 1) = .int .i64 (n : Int) := hs 1 (by kernel_rfl)
       clear hs hd hg
       go_simp
       exact ⟨Below.refl _ _, rfl⟩
      ·refine relOb_mk (o := ⟨some 83, _, _, _, _, _⟩) rfl (fun r V hc hf hg hs hb hd => ?_)
       have h5 : r (.tmp 82) = .int .i64 (n : Int) := hd 5 82 rfl (by kernel_rfl)
       clear hs hd hg
       have h63 := HN63.out
       have h0 : (0 : Int) ≤ n := by omega
       have h1 : min n 64 = n := by omega
       have h2 : ¬ (64 : Int) ≤ n := by omega
       have hs1 := one_form n h63
       go_simp
       exact ⟨Below.refl _ _, by simp⟩
      ·refine relOb_mk (o := ⟨some 84, _, _, _, _, _⟩) rfl (fun r V hc hf hg hs hb hd => ?_)
       have h4 : r (.tmp 81) = .int .u64 (s.lk : Int) := hd 4 81 rfl (by kernel_rfl)
       have h6 : r (.tmp 83) = .int .u64 (pw n : Int) := hd 6 83 rfl (by kernel_rfl)
       clear hs hd hg
       have ho1 := wo_form s.lk n HN63.out HSO.out.lk
       go_simp
       exact ⟨Below.refl _ _, rfl⟩
      ·refine relOb_mk (o := ⟨some 85, _, _, _, _, _⟩) rfl (fun r V hc hf hg hs hb hd => ?_)
       have h0 : r (.tmp 77) = .pointer (some ⟨g, 0, none⟩) := hd 0 77 rfl (by kernel_rfl)
       clear hs hd hg
       go_simp
       exact ⟨Below.refl _ _, rfl⟩
      ·refine relOb_mk (o := ⟨some 86, _, _, _, _, _⟩) rfl (fun r V hc hf hg hs hb hd => ?_)
       have h8 : r (.tmp 85) = .pointer (some ⟨g, 0, none⟩) := hd 8 85 rfl (by kernel_rfl)
       clear hs hd hg
       go_simp
       exact ⟨Below.refl _ _, rfl⟩
      ·refine relOb_mk (o := ⟨some 87, _, _, _, _, _⟩) rfl (fun r V hc hf hg hs hb hd => ?_)
       have h9 : r (.tmp 86) = .pointer (some ⟨g, 1, none⟩) := hd 9 86 rfl (by kernel_rfl)
       clear hs hd hg
       go_simp
       exact ⟨Below.refl _ _, rfl⟩
     ·intro a V hb hx
      have h0 : a.eval (.tmp 77) = .pointer (some ⟨g, 0, none⟩) := hx 0 77 rfl rfl
      have h1 : a.eval (.tmp 78) = .pointer (some ⟨g, 0, none⟩) := hx 1 78 rfl rfl
      have h2 : a.eval (.tmp 79) = .pointer (some ⟨g, 1, none⟩) := hx 2 79 rfl rfl
      have h3 : a.eval (.tmp 80) = .pointer (some ⟨g, 1, none⟩) := hx 3 80 rfl rfl
      have h4 : a.eval (.tmp 81) = .int .u64 (s.lk : Int) := hx 4 81 rfl rfl
      have h5 : a.eval (.tmp 82) = .int .i64 (n : Int) := hx 5 82 rfl rfl
      have h6 : a.eval (.tmp 83) = .int .u64 (pw n : Int) := hx 6 83 rfl rfl
      have h7 : a.eval (.tmp 84) = .int .u64 ((woBit s.lk n : Nat) : Int) := hx 7 84 rfl rfl
      have h8 : a.eval (.tmp 85) = .pointer (some ⟨g, 0, none⟩) := hx 8 85 rfl rfl
      have h9 : a.eval (.tmp 86) = .pointer (some ⟨g, 1, none⟩) := hx 9 86 rfl rfl
      have h10 : a.eval (.tmp 87) = .pointer (some ⟨g, 1, none⟩) := hx 10 87 rfl rfl
      unfold fillAll
      simp only [List.foldl_cons, List.foldl_nil, h0, h1, h2, h3, h4, h5, h6, h7, h8, h9, h10, Act.put, List.setIfInBounds_toArray, List.set_cons_zero, List.set_cons_succ]
      clear h0 h1 h2 h3 h4 h5 h6 h7 h8 h9 h10 hx
      have HCV := Lib.hid (HC1.out.below hb)
      have HBV := Lib.hid (below_tr HB1.out (below_g hb HC1.out.gle))
      clear hb HC1 HB1
      refine wpAny_ready (rs := [11]) (by kernel_rfl) (by simp) (AllReady.cons (o := ⟨none, _, _, _, _, _⟩) rfl (fun K hK => ?_) AllReady.nil)
      have c0 := blk_cell HCV.out.blk 1 _ (cy_1 _ _ _ _)
      have f0 := blk_free HCV.out.blk 1
      have hl := blk_lt HCV.out.blk
      go_simp
      clear c0 f0 hl
      refine name_K ?_
      intro Va hVa
      have hput := HCV.out.put 1 _ (cs_1 _ _ _ _ _) (HOK1.out)
      rw [← hVa] at hput
      have HCa := Lib.hid hput.1
      have HBa := Lib.hid (below_tr HBV.out hput.2)
      clear hVa hput HCV HBV
      refine hK _ _ ?_
      clear hK K
      refine wpAny_done (by kernel_rfl) ?_ _
      go_upto_region 12 with fail
      refine wp_region_rel (by kernel_rfl) [11] 14 [0, 1, 2, 3, 4, 5, 6, 7, 8, 9, 10] [88, 89, 90, 91, 92, 93, 94, 95, 96, 97, 98] #[true, true, true, true, true, true, true, true, true, true, true, false] 1 [(fun v _ => v = .pointer (some ⟨g, 0, none⟩)), (fun v _ => v = .pointer (some ⟨g, 0, none⟩)), (fun v _ => v = .pointer (some ⟨g, 1, none⟩)), (fun v _ => v = .pointer (some ⟨g, 2, none⟩)), (fun v _ => v = .int .u64 (s.us : Int)), (fun v _ => v = .int .i64 (n : Int)), (fun v _ => v = .int .u64 (pw n : Int)), (fun v _ => v = .int .u64 ((woBit s.us n : Nat) : Int)), (fun v _ => v = .pointer (some ⟨g, 0, none⟩)), (fun v _ => v = .pointer (some ⟨g, 1, none⟩)), (fun v _ => v = .pointer (some ⟨g, 2, none⟩)), (fun _ _ => True)] (by kernel_rfl) (by kernel_rfl) (by kernel_rfl) (by kernel_rfl) (by kernel_rfl) rfl (by kernel_rfl) rfl ?_ ?_ ?_
      ·exact ⟨stays_is _, stays_is _, stays_is _, stays_is _, stays_is _, stays_is _, stays_is _, stays_is _, stays_is _, stays_is _, stays_is _, stays_true, trivial⟩
      ·refine ⟨?_, ?_, ?_, ?_, ?_, ?_, ?_, ?_, ?_, ?_, ?_, trivial⟩
       ·refine relOb_mk (o := ⟨some 88, _, _, _, _, _⟩) rfl (fun r V hc hf hg hs hb hd => ?_)
        have x0 : r (.tmp 0) = .pointer (some ⟨g, 0, none⟩) := hs 0 (by kernel_rfl)
        clear hs hd hg
        go_simp
        exact ⟨Below.refl _ _, rfl⟩
       ·refine relOb_mk (o := ⟨some 89, _, _, _, _, _⟩) rfl (fun r V hc hf hg hs hb hd => ?_)
        have h0 : r (.tmp 88) = .pointer (some ⟨g, 0, none⟩) := hd 0 88 rfl (by kernel_rfl)
        clear hs hd hg
        go_simp
        exact ⟨Below.refl _ _, rfl⟩
       ·refine relOb_mk (o := ⟨some 90, _, _, _, _, _⟩) rfl (fun r V hc hf hg hs hb hd => ?_)
        have h1 : r (.tmp 89) = .pointer (some ⟨g, 0, none⟩) := hd 1 89 rfl (by kernel_rfl)
        clear hs hd hg
        go_simp
        exact ⟨Below.refl _ _, rfl⟩
       ·refine relOb_mk (o := ⟨some 91, _, _, _, _, _⟩) rfl (fun r V hc hf hg hs hb hd => ?_)
        have h2 : r (.tmp 90) = .pointer (some ⟨g, 1, none⟩) := hd 2 90 rfl (by kernel_rfl)
        clear hs hd hg
        go_simp
        exact ⟨Below.refl _ _, rfl⟩
       ·refine relOb_mk (o := ⟨some 92, _, _, _, _, _⟩) rfl (fun r V hc hf hg hs hb hd => ?_)
        have h3 : r (.tmp 91) = .pointer (some ⟨g, 2, none⟩) := hd 3 91 rfl (by kernel_rfl)
        clear hs hd hg
        have l := blk_cell (HCa.out.below hb).blk 2 _ (cy_2 _ _ _ _)
        go_simp
        exact ⟨Below.refl _ _, rfl⟩
       ·refine relOb_mk (o := ⟨some 93, _, _, _, _, _⟩) rfl (fun r V hc hf hg hs hb hd => ?_)
        have x1 : r (.tmp 1) = .int .i64 (n : Int) := hs 1 (by kernel_rfl)
        clear hs hd hg
        go_simp
        exact ⟨Below.refl _ _, rfl⟩
       ·refine relOb_mk (o := ⟨some 94, _, _, _, _, _⟩) rfl (fun r V hc hf hg hs hb hd => ?_)
        have h5 : r (.tmp 93) = .int .i64 (n : Int) := hd 5 93 rfl (by kernel_rfl)
        clear hs hd hg
        have h63 := HN63.out
        have h0 : (0 : Int) ≤ n := by omega
        have h1 : min n 64 = n := by omega
        have h2 : ¬ (64 : Int) ≤ n := by omega
        have hs1 := one_form n h63
        go_simp
        exact ⟨Below.refl _ _, by simp⟩
       ·refine relOb_mk (o := ⟨some 95, _, _, _, _, _⟩) rfl (fun r V hc hf hg hs hb hd => ?_)
        have h4 : r (.tmp 92) = .int .u64 (s.us : Int) := hd 4 92 rfl (by kernel_rfl)
        have h6 : r (.tmp 94) = .int .u64 (pw n : Int) := hd 6 94 rfl (by kernel_rfl)
        clear hs hd hg
        have ho1 := wo_form s.us n HN63.out HSO.out.us
        go_simp
        exact ⟨Below.refl _ _, rfl⟩
       ·refine relOb_mk (o := ⟨some 96, _, _, _, _, _⟩) rfl (fun r V hc hf hg hs hb hd => ?_)
        have h0 : r (.tmp 88) = .pointer (some ⟨g, 0, none⟩) := hd 0 88 rfl (by kernel_rfl)
        clear hs hd hg
        go_simp
        exact ⟨Below.refl _ _, rfl⟩
       ·refine relOb_mk (o := ⟨some 97, _, _, _, _, _⟩) rfl (fun r V hc hf hg hs hb hd => ?_)
        have h8 : r (.tmp 96) = .pointer (some ⟨g, 0, none⟩) := hd 8 96 rfl (by kernel_rfl)
        clear hs hd hg
        go_simp
        exact ⟨Below.refl _ _, rfl⟩
       ·refine relOb_mk (o := ⟨some 98, _, _, _, _, _⟩) rfl (fun r V hc hf hg hs hb hd => ?_)
        have h9 : r (.tmp 97) = .pointer (some ⟨g, 1, none⟩) := hd 9 97 rfl (by kernel_rfl)
        clear hs hd hg
        go_simp
        exact ⟨Below.refl _ _, rfl⟩
      ·intro a V hb hx
       have h0 : a.eval (.tmp 88) = .pointer (some ⟨g, 0, none⟩) := hx 0 88 rfl rfl
       have h1 : a.eval (.tmp 89) = .pointer (some ⟨g, 0, none⟩) := hx 1 89 rfl rfl
       have h2 : a.eval (.tmp 90) = .pointer (some ⟨g, 1, none⟩) := hx 2 90 rfl rfl
       have h3 : a.eval (.tmp 91) = .pointer (some ⟨g, 2, none⟩) := hx 3 91 rfl rfl
       have h4 : a.eval (.tmp 92) = .int .u64 (s.us : Int) := hx 4 92 rfl rfl
       have h5 : a.eval (.tmp 93) = .int .i64 (n : Int) := hx 5 93 rfl rfl
       have h6 : a.eval (.tmp 94) = .int .u64 (pw n : Int) := hx 6 94 rfl rfl
       have h7 : a.eval (.tmp 95) = .int .u64 ((woBit s.us n : Nat) : Int) := hx 7 95 rfl rfl
       have h8 : a.eval (.tmp 96) = .pointer (some ⟨g, 0, none⟩) := hx 8 96 rfl rfl
       have h9 : a.eval (.tmp 97) = .pointer (some ⟨g, 1, none⟩) := hx 9 97 rfl rfl
       have h10 : a.eval (.tmp 98) = .pointer (some ⟨g, 2, none⟩) := hx 10 98 rfl rfl
       unfold fillAll
       simp only [List.foldl_cons, List.foldl_nil, h0, h1, h2, h3, h4, h5, h6, h7, h8, h9, h10, Act.put, List.setIfInBounds_toArray, List.set_cons_zero, List.set_cons_succ]
       clear h0 h1 h2 h3 h4 h5 h6 h7 h8 h9 h10 hx
       have HCV := Lib.hid (HCa.out.below hb)
       have HBV := Lib.hid (below_tr HBa.out (below_g hb HCa.out.gle))
       clear hb HCa HBa
       refine wpAny_ready (rs := [11]) (by kernel_rfl) (by simp) (AllReady.cons (o := ⟨none, _, _, _, _, _⟩) rfl (fun K hK => ?_) AllReady.nil)
       have c0 := blk_cell HCV.out.blk 2 _ (cy_2 _ _ _ _)
       have f0 := blk_free HCV.out.blk 2
       have hl := blk_lt HCV.out.blk
       go_simp
       clear c0 f0 hl
       refine name_K ?_
       intro Vb hVb
       have hput := HCV.out.put 2 _ (cs_2 _ _ _ _ _) (HOK2.out)
       rw [← hVb] at hput
       have HCb := Lib.hid hput.1
       have HBb := Lib.hid (below_tr HBV.out hput.2)
       clear hVb hput HCV HBV
       refine hK _ _ ?_
       clear hK K
       refine wpAny_done (by kernel_rfl) ?_ _
       go_upto_region 13 with fail
       refine wp_region_rel (by kernel_rfl) [11] 14 [0, 1, 2, 3, 4, 5, 6, 7, 8, 9, 10] [99, 100, 101, 102, 103, 104, 105, 106, 107, 108, 109] #[true, true, true, true, true, true, true, true, true, true, true, false] 1 [(fun v _ => v = .pointer (some ⟨g, 0, none⟩)), (fun v _ => v = .pointer (some ⟨g, 0, none⟩)), (fun v _ => v = .pointer (some ⟨g, 1, none⟩)), (fun v _ => v = .pointer (some ⟨g, 3, none⟩)), (fun v _ => v = .int .u64 (s.ca : Int)), (fun v _ => v = .int .i64 (n : Int)), (fun v _ => v = .int .u64 (pw n : Int)), (fun v _ => v = .int .u64 ((woBit s.ca n : Nat) : Int)), (fun v _ => v = .pointer (some ⟨g, 0, none⟩)), (fun v _ => v = .pointer (some ⟨g, 1, none⟩)), (fun v _ => v = .pointer (some ⟨g, 3, none⟩)), (fun _ _ => True)] (by kernel_rfl) (by kernel_rfl) (by kernel_rfl) (by kernel_rfl) (by kernel_rfl) rfl (by kernel_rfl) rfl ?_ ?_ ?_
       ·exact ⟨stays_is _, stays_is _, stays_is _, stays_is _, stays_is _, stays_is _, stays_is _, stays_is _, stays_is _, stays_is _, stays_is _, stays_true, trivial⟩
       ·refine ⟨?_, ?_, ?_, ?_, ?_, ?_, ?_, ?_, ?_, ?_, ?_, trivial⟩
        ·refine relOb_mk (o := ⟨some 99, _, _, _, _, _⟩) rfl (fun r V hc hf hg hs hb hd => ?_)
         have x0 : r (.tmp 0) = .pointer (some ⟨g, 0, none⟩) := hs 0 (by kernel_rfl)
         clear hs hd hg
         go_simp
         exact ⟨Below.refl _ _, rfl⟩
        ·refine relOb_mk (o := ⟨some 100, _, _, _, _, _⟩) rfl (fun r V hc hf hg hs hb hd => ?_)
         have h0 : r (.tmp 99) = .pointer (some ⟨g, 0, none⟩) := hd 0 99 rfl (by kernel_rfl)
         clear hs hd hg
         go_simp
         exact ⟨Below.refl _ _, rfl⟩
        ·refine relOb_mk (o := ⟨some 101, _, _, _, _, _⟩) rfl (fun r V hc hf hg hs hb hd => ?_)
         have h1 : r (.tmp 100) = .pointer (some ⟨g, 0, none⟩) := hd 1 100 rfl (by kernel_rfl)
         clear hs hd hg
         go_simp
         exact ⟨Below.refl _ _, rfl⟩
        ·refine relOb_mk (o := ⟨some 102, _, _, _, _, _⟩) rfl (fun r V hc hf hg hs hb hd => ?_)
         have h2 : r (.tmp 101) = .pointer (some ⟨g, 1, none⟩) := hd 2 101 rfl (by kernel_rfl)
         clear hs hd hg
         go_simp
         exact ⟨Below.refl _ _, rfl⟩
        ·refine relOb_mk (o := ⟨some 103, _, _, _, _, _⟩) rfl (fun r V hc hf hg hs hb hd => ?_)
         have h3 : r (.tmp 102) = .pointer (some ⟨g, 3, none⟩) := hd 3 102 rfl (by kernel_rfl)
         clear hs hd hg
         have l := blk_cell (HCb.out.below hb).blk 3 _ (cy_3 _ _ _ _)
         go_simp
         exact ⟨Below.refl _ _, rfl⟩
        ·refine relOb_mk (o := ⟨some 104, _, _, _, _, _⟩) rfl (fun r V hc hf hg hs hb hd => ?_)
         have x1 : r (.tmp 1) = .int .i64 (n : Int) := hs 1 (by kernel_rfl)
         clear hs hd hg
         go_simp
         exact ⟨Below.refl _ _, rfl⟩
        ·refine relOb_mk (o := ⟨some 105, _, _, _, _, _⟩) rfl (fun r V hc hf hg hs hb hd => ?_)
         have h5 : r (.tmp 104) = .int .i64 (n : Int) := hd 5 104 rfl (by kernel_rfl)
         clear hs hd hg
         have h63 := HN63.out
         have h0 : (0 : Int) ≤ n := by omega
         have h1 : min n 64 = n := by omega
         have h2 : ¬ (64 : Int) ≤ n := by omega
         have hs1 := one_form n h63
         go_simp
         exact ⟨Below.refl _ _, by simp⟩
        ·refine relOb_mk (o := ⟨some 106, _, _, _, _, _⟩) rfl (fun r V hc hf hg hs hb hd => ?_)
         have h4 : r (.tmp 103) = .int .u64 (s.ca : Int) := hd 4 103 rfl (by kernel_rfl)
         have h6 : r (.tmp 105) = .int .u64 (pw n : Int) := hd 6 105 rfl (by kernel_rfl)
         clear hs hd hg
         have ho1 := wo_form s.ca n HN63.out HSO.out.ca
         go_simp
         exact ⟨Below.refl _ _, rfl⟩
        ·refine relOb_mk (o := ⟨some 107, _, _, _, _, _⟩) rfl (fun r V hc hf hg hs hb hd => ?_)
         have h0 : r (.tmp 99) = .pointer (some ⟨g, 0, none⟩) := hd 0 99 rfl (by kernel_rfl)
         clear hs hd hg
         go_simp
         exact ⟨Below.refl _ _, rfl⟩
        ·refine relOb_mk (o := ⟨some 108, _, _, _, _, _⟩) rfl (fun r V hc hf hg hs hb hd => ?_)
         have h8 : r (.tmp 107) = .pointer (some ⟨g, 0, none⟩) := hd 8 107 rfl (by kernel_rfl)
         clear hs hd hg
         go_simp
         exact ⟨Below.refl _ _, rfl⟩
        ·refine relOb_mk (o := ⟨some 109, _, _, _, _, _⟩) rfl (fun r V hc hf hg hs hb hd => ?_)
         have h9 : r (.tmp 108) = .pointer (some ⟨g, 1, none⟩) := hd 9 108 rfl (by kernel_rfl)
         clear hs hd hg
         go_simp
         exact ⟨Below.refl _ _, rfl⟩
       ·intro a V hb hx
        have h0 : a.eval (.tmp 99) = .pointer (some ⟨g, 0, none⟩) := hx 0 99 rfl rfl
        have h1 : a.eval (.tmp 100) = .pointer (some ⟨g, 0, none⟩) := hx 1 100 rfl rfl
        have h2 : a.eval (.tmp 101) = .pointer (some ⟨g, 1, none⟩) := hx 2 101 rfl rfl
        have h3 : a.eval (.tmp 102) = .pointer (some ⟨g, 3, none⟩) := hx 3 102 rfl rfl
        have h4 : a.eval (.tmp 103) = .int .u64 (s.ca : Int) := hx 4 103 rfl rfl
        have h5 : a.eval (.tmp 104) = .int .i64 (n : Int) := hx 5 104 rfl rfl
        have h6 : a.eval (.tmp 105) = .int .u64 (pw n : Int) := hx 6 105 rfl rfl
        have h7 : a.eval (.tmp 106) = .int .u64 ((woBit s.ca n : Nat) : Int) := hx 7 106 rfl rfl
        have h8 : a.eval (.tmp 107) = .pointer (some ⟨g, 0, none⟩) := hx 8 107 rfl rfl
        have h9 : a.eval (.tmp 108) = .pointer (some ⟨g, 1, none⟩) := hx 9 108 rfl rfl
        have h10 : a.eval (.tmp 109) = .pointer (some ⟨g, 3, none⟩) := hx 10 109 rfl rfl
        unfold fillAll
        simp only [List.foldl_cons, List.foldl_nil, h0, h1, h2, h3, h4, h5, h6, h7, h8, h9, h10, Act.put, List.setIfInBounds_toArray, List.set_cons_zero, List.set_cons_succ]
        clear h0 h1 h2 h3 h4 h5 h6 h7 h8 h9 h10 hx
        have HCV := Lib.hid (HCb.out.below hb)
        have HBV := Lib.hid (below_tr HBb.out (below_g hb HCb.out.gle))
        clear hb HCb HBb
        refine wpAny_ready (rs := [11]) (by kernel_rfl) (by simp) (AllReady.cons (o := ⟨none, _, _, _, _, _⟩) rfl (fun K hK => ?_) AllReady.nil)
        have c0 := blk_cell HCV.out.blk 3 _ (cy_3 _ _ _ _)
        have f0 := blk_free HCV.out.blk 3
        have hl := blk_lt HCV.out.blk
        go_simp
        clear c0 f0 hl
        refine name_K ?_
        intro Vc hVc
        have hput := HCV.out.put 3 _ (cs_3 _ _ _ _ _) (HOK3.out)
        rw [← hVc] at hput
        have HCc := Lib.hid hput.1
        have HBc := Lib.hid (below_tr HBV.out hput.2)
        clear hVc hput HCV HBV
        refine hK _ _ ?_
        clear hK K
        refine wpAny_done (by kernel_rfl) ?_ _
        have l3 := blk_cell HCc.out.blk (4 + n) _ (cy_tm _ _ _ _ HN64.out)
        have f3 := blk_free HCc.out.blk (4 + n)
        have d2 : (0 : Int) ≤ n := by omega
        have d3 : (n : Int) < 64 := by have := HN64.out; omega
        go_wp2_with fail
        refine name_any ?_
        intro WZ hWZ
        have hput := HCc.out.put (4 + n) _ (cs_tm _ _ _ _ 0 HN64.out) (HOK4.out)
        have e0 : ((0 : Nat) : Int) = 0 := rfl
        rw [e0, ← hWZ] at hput
        have HEND := Lib.hid (And.intro hput.1 (below_tr HBc.out hput.2))
        clear hWZ hput l3 f3 d2 d3
        go_end0
        rw [rou_1 HU.out, HFR.out, if_pos rfl, rel_is]
        exact ⟨rfl, HEND.out⟩
   | false =>
     go_wp2_with fail
     go_end0
     rw [rou_1 HU.out, HFR.out]
     exact ⟨rfl, HC1.out, HB1.out⟩
 | false =>
   have q1 := blk_cell HQR.out 0 _ rfl
   go_wp2_with fail
   refine (HCLR.out _ HB0.out).mono ?_
   rintro e w1 ⟨rfl, hb⟩
   have HBB := Lib.hid (below_on HB0.out hb)
   have HC4 := Lib.hid (HC.out.below (below_on HB0.out hb))
   have HB4 := Lib.hid (below_g (below_on HB0.out hb) HC.out.gle)
   clear hb HB0 HCLR q0 q1 HQR
   cases bi with
   | true =>
     go_upto_region 6 with fail
     refine wp_region_rel (by kernel_rfl) [11] 14 [0, 1, 2, 3, 4, 5, 6, 7, 8, 9, 10] [35, 36, 37, 38, 39, 40, 41, 42, 43, 44, 45] #[true, true, true, true, true, true, true, true, true, true, true, false] 1 [(fun v _ => v = .pointer (some ⟨g, 0, none⟩)), (fun v _ => v = .pointer (some ⟨g, 0, none⟩)), (fun v _ => v = .pointer (some ⟨g, 1, none⟩)), (fun v _ => v = .pointer (some ⟨g, 2, none⟩)), (fun v _ => v = .int .u64 (s.us : Int)), (fun v _ => v = .int .i64 (n : Int)), (fun v _ => v = .int .u64 (pw n : Int)), (fun v _ => v = .int .u64 ((withBit s.us n : Nat) : Int)), (fun v _ => v = .pointer (some ⟨g, 0, none⟩)), (fun v _ => v = .pointer (some ⟨g, 1, none⟩)), (fun v _ => v = .pointer (some ⟨g, 2, none⟩)), (fun _ _ => True)] (by kernel_rfl) (by kernel_rfl) (by kernel_rfl) (by kernel_rfl) (by kernel_rfl) rfl (by kernel_rfl) rfl ?_ ?_ ?_
     ·exact ⟨stays_is _, stays_is _, stays_is _, stays_is _, stays_is _, stays_is _, stays_is _, stays_is _, stays_is _, stays_is _, stays_is _, stays_true, trivial⟩
     ·refine ⟨?_, ?_, ?_, ?_, ?_, ?_, ?_, ?_, ?_, ?_, ?_, trivial⟩
      ·refine relOb_mk (o := ⟨some 35, _, _, _, _, _⟩) rfl (fun r V hc hf hg hs hb hd => ?_)
       have x0 : r (.tmp 0) = .pointer (some ⟨g, 0, none⟩) := hs 0 (by kernel_rfl)
       clear hs hd hg
       go_simp
       exact ⟨Below.refl _ _, rfl⟩
      ·refine relOb_mk (o := ⟨some 36, _, _, _, _, _⟩) rfl (fun r V hc hf hg hs hb hd => ?_)
       have h0 : r (.tmp 35) = .pointer (some ⟨g, 0, none⟩) := hd 0 35 rfl (by kernel_rfl)
       clear hs hd hg
       go_simp
       exact ⟨Below.refl _ _, rfl⟩
      ·refine relOb_mk (o := ⟨some 37, _, _, _, _, _⟩) rfl (fun r V hc hf hg hs hb hd => ?_)
       have h1 : r (.tmp 36) = .pointer (some ⟨g, 0, none⟩) := hd 1 36 rfl (by kernel_rfl)
       clear hs hd hg
       go_simp
       exact ⟨Below.refl _ _, rfl⟩
      ·refine relOb_mk (o := ⟨some 38, _, _, _, _, _⟩) rfl (fun r V hc hf hg hs hb hd => ?_)
       have h2 : r (.tmp 37) = .pointer (some ⟨g, 1, none⟩) := hd 2 37 rfl (by kernel_rfl)
       clear hs hd hg
       go_simp
       exact ⟨Below.refl _ _, rfl⟩
      ·refine relOb_mk (o := ⟨some 39, _, _, _, _, _⟩) rfl (fun r V hc hf hg hs hb hd => ?_)
       have h3 : r (.tmp 38) = .pointer (some ⟨g, 2, none⟩) := hd 3 38 rfl (by kernel_rfl)
       clear hs hd hg
       have l := blk_cell (HC4.out.below hb).blk 2 _ (cy_2 _ _ _ _)
       go_simp
       exact ⟨Below.refl _ _, rfl⟩
      ·refine relOb_mk (o := ⟨some 40, _, _, _, _, _⟩) rfl (fun r V hc hf hg hs hb hd => ?_)
       have x1 : r (.tmp 1) = .int .i64 (n : Int) := hs 1 (by kernel_rfl)
       clear hs hd hg
       go_simp
       exact ⟨Below.refl _ _, rfl⟩
      ·refine relOb_mk (o := ⟨some 41, _, _, _, _, _⟩) rfl (fun r V hc hf hg hs hb hd => ?_)
       have h5 : r (.tmp 40) = .int .i64 (n : Int) := hd 5 40 rfl (by kernel_rfl)
       clear hs hd hg
       have h63 := HN63.out
       have h0 : (0 : Int) ≤ n := by omega
       have h1 : min n 64 = n := by omega
       have h2 : ¬ (64 : Int) ≤ n := by omega
       have hs1 := one_form n h63
       go_simp
       exact ⟨Below.refl _ _, by simp⟩
      ·refine relOb_mk (o := ⟨some 42, _, _, _, _, _⟩) rfl (fun r V hc hf hg hs hb hd => ?_)
       have h4 : r (.tmp 39) = .int .u64 (s.us : Int) := hd 4 39 rfl (by kernel_rfl)
       have h6 : r (.tmp 41) = .int .u64 (pw n : Int) := hd 6 41 rfl (by kernel_rfl)
       clear hs hd hg
       have ho1 := or_form s.us n HN63.out HSO.out.us
       go_simp
       exact ⟨Below.refl _ _, rfl⟩
      ·refine relOb_mk (o := ⟨some 43, _, _, _, _, _⟩) rfl (fun r V hc hf hg hs hb hd => ?_)
       have h0 : r (.tmp 35) = .pointer (some ⟨g, 0, none⟩) := hd 0 35 rfl (by kernel_rfl)
       clear hs hd hg
       go_simp
       exact ⟨Below.refl _ _, rfl⟩
      ·refine relOb_mk (o := ⟨some 44, _, _, _, _, _⟩) rfl (fun r V hc hf hg hs hb hd => ?_)
       have h8 : r (.tmp 43) = .pointer (some ⟨g, 0, none⟩) := hd 8 43 rfl (by kernel_rfl)
       clear hs hd hg
       go_simp
       exact ⟨Below.refl _ _, rfl⟩
      ·refine relOb_mk (o := ⟨some 45, _, _, _, _, _⟩) rfl (fun r V hc hf hg hs hb hd => ?_)
       have h9 : r (.tmp 44) = .pointer (some ⟨g, 1, none⟩) := hd 9 44 rfl (by kernel_rfl)
       clear hs hd hg
       go_simp
       exact ⟨Below.refl _ _, rfl⟩
     ·intro a V hb hx
      have h0 : a.eval (.tmp 35) = .pointer (some ⟨g, 0, none⟩) := hx 0 35 rfl rfl
      have h1 : a.eval (.tmp 36) = .pointer (some ⟨g, 0, none⟩) := hx 1 36 rfl rfl
      have h2 : a.eval (.tmp 37) = .pointer (some ⟨g, 1, none⟩) := hx 2 37 rfl rfl
      have h3 : a.eval (.tmp 38) = .pointer (some ⟨g, 2, none⟩) := hx 3 38 rfl rfl
      have h4 : a.eval (.tmp 39) = .int .u64 (s.us : Int) := hx 4 39 rfl rfl
      have h5 : a.eval (.tmp 40) = .int .i64 (n : Int) := hx 5 40 rfl rfl
      have h6 : a.eval (.tmp 41) = .int .u64 (pw n : Int) := hx 6 41 rfl rfl
      have h7 : a.eval (.tmp 42) = .int .u64 ((withBit s.us n : Nat) : Int) := hx 7 42 rfl rfl
      have h8 : a.eval (.tmp 43) = .pointer (some ⟨g, 0, none⟩) := hx 8 43 rfl rfl
      have h9 : a.eval (.tmp 44) = .pointer (some ⟨g, 1, none⟩) := hx 9 44 rfl rfl
      have h10 : a.eval (.tmp 45) = .pointer (some ⟨g, 2, none⟩) := hx 10 45 rfl rfl
      unfold fillAll
      simp only [List.foldl_cons, List.foldl_nil, h0, h1, h2, h3, h4, h5, h6, h7, h8, h9, h10, Act.put, List.setIfInBounds_toArray, List.set_cons_zero, List.set_cons_succ]
      clear h0 h1 h2 h3 h4 h5 h6 h7 h8 h9 h10 hx
      have HCV := Lib.hid (HC4.out.below hb)
      have HBV := Lib.hid (below_tr HB4.out (below_g hb HC4.out.gle))
      clear hb HC4 HB4
      refine wpAny_ready (rs := [11]) (by kernel_rfl) (by simp) (AllReady.cons (o := ⟨none, _, _, _, _, _⟩) rfl (fun K hK => ?_) AllReady.nil)
      have c0 := blk_cell HCV.out.blk 2 _ (cy_2 _ _ _ _)
      have f0 := blk_free HCV.out.blk 2
      have hl := blk_lt HCV.out.blk
      go_simp
      clear c0 f0 hl
      refine name_K ?_
      intro Vz hVz
      have hput := HCV.out.put 2 _ (cs_2 _ _ _ _ _) (HOKU.out)
      rw [← hVz] at hput
      have HCz := Lib.hid hput.1
      have HBz := Lib.hid (below_tr HBV.out hput.2)
      clear hVz hput HCV HBV
      refine hK _ _ ?_
      clear hK K
      refine wpAny_done (by kernel_rfl) ?_ _
      go_wp2_with fail
      go_end0
      rw [rou_2 HU.out HF.out]
      exact ⟨rfl, HCz.out, HBz.out⟩
   | false =>
     have q3 := blk_cell HC4.out.blk 3 _ (cy_3 _ _ _ _)
     go_wp2_with fail
     refine (HIC.out _).mono ?_
     rintro e w' ⟨rfl, rfl⟩
     clear q3
     cases bc with
     | false =>
       go_wp2_with fail
       go_end0
       rw [rou_3 HU.out HF.out HCA.out]
       exact ⟨rfl, HC4.out, HB4.out⟩
     | true =>
       obtain ⟨t, ht⟩ : ∃ t, s.tm n = t := ⟨_, rfl⟩
       have q4 := blk_cell HC4.out.blk (4 + n) _ (cy_tm _ _ _ _ HN64.out)
       rw [ht] at q4
       have d1 : (0 : Int) ≤ n := by omega
       have d3 : (n : Int) < 64 := by have := HN64.out; omega
       have htb : t ≤ 255 := by rw [← ht]; exact HSO.out.tm n
       by_cases h0 : 0 < t
       ·have d5 : (0 : Int) < (t : Int) := by omega
        have HSUB : Hid (IntKind.u8.wrap ((t : Int) - 1) = ((t - 1 : Nat) : Int)) := Lib.hid (by rw [IntKind.wrap_u8]; omega)
        have HT4 : Hid ((cyL m s i u).toArray[4 + n]? = some (.int .u8 (t : Int))) := Lib.hid (by rw [cy_tm _ _ _ _ HN64.out, ht])
        have HOKT : Hid (St.ok { s with tm := upd s.tm n (t - 1) }) := Lib.hid ⟨HSO.out.lk, HSO.out.us, HSO.out.ca, upd_le HSO.out.tm n (by omega), HSO.out.pt⟩
        have HEQ : Hid (rouS s i.oc u n x.rw = { s with tm := upd s.tm n (t - 1) }) := Lib.hid (by rw [rou_4 HU.out HF.out HCA.out (by rw [ht]; exact h0), ht])
        have HC5 := Lib.hid HC4.out
        have HB5 := Lib.hid HB4.out
        clear ht h0 htb
        go_upto_region 9 with fail
        clear q4 d5
        refine wp_region_rel (by kernel_rfl) [12] 15 [0, 1, 2, 3, 4, 5, 6, 7, 8, 9, 10, 11] [64, 65, 66, 67, 68, 69, 70, 71, 72, 73, 74, 75] #[true, true, true, true, true, true, true, true, true, true, true, true, false] 1 [(fun v _ => v = .pointer (some ⟨g, 0, none⟩)), (fun v _ => v = .int .i64 (n : Int)), (fun v _ => v = .pointer (some ⟨g, 0, none⟩)), (fun v _ => v = .pointer (some ⟨g, 1, none⟩)), (fun v _ => v = .pointer (some ⟨g, 4, none⟩)), (fun v _ => v = .pointer (some ⟨g, 4 + n, none⟩)), (fun v _ => v = .int .u8 (t : Int)), (fun v _ => v = .int .u8 ((t - 1 : Nat) : Int)), (fun v _ => v = .pointer (some ⟨g, 0, none⟩)), (fun v _ => v = .pointer (some ⟨g, 1, none⟩)), (fun v _ => v = .pointer (some ⟨g, 4, none⟩)), (fun v _ => v = .pointer (some ⟨g, 4 + n, none⟩)), (fun _ _ => True)] (by kernel_rfl) (by kernel_rfl) (by kernel_rfl) (by kernel_rfl) (by kernel_rfl) rfl (by kernel_rfl) rfl ?_ ?_ ?_
        ·exact ⟨stays_is _, stays_is _, stays_is _, stays_is _, stays_is _, stays_is _, stays_is _, stays_is _, stays_is _, stays_is _, stays_is _, stays_is _, stays_true, trivial⟩
        ·refine ⟨?_, ?_, ?_, ?_, ?_, ?_, ?_, ?_, ?_, ?_, ?_, ?_, trivial⟩
         ·refine relOb_mk (o := ⟨some 64, _, _, _, _, _⟩) rfl (fun r V hc hf hg hs hb hd => ?_)
          have x0 : r (.tmp 0) = .pointer (some ⟨g, 0, none⟩) := hs 0 (by kernel_rfl)
          clear hs hd hg
          go_simp
          exact ⟨Below.refl _ _, rfl⟩
         ·refine relOb_mk (o := ⟨some 65, _, _, _, _, _⟩) rfl (fun r V hc hf hg hs hb hd => ?_)
          have x1 : r (.tmp 1) = .int .i64 (n : Int) := hs 1 (by kernel_rfl)
          clear hs hd hg
          go_simp
          exact ⟨Below.refl _ _, rfl⟩
         ·refine relOb_mk (o := ⟨some 66, _, _, _, _, _⟩) rfl (fun r V hc hf hg hs hb hd => ?_)
          have h0 : r (.tmp 64) = .pointer (some ⟨g, 0, none⟩) := hd 0 64 rfl (by kernel_rfl)
          clear hs hd hg
          go_simp
          exact ⟨Below.refl _ _, rfl⟩
         ·refine relOb_mk (o := ⟨some 67, _, _, _, _, _⟩) rfl (fun r V hc hf hg hs hb hd => ?_)
          have h2 : r (.tmp 66) = .pointer (some ⟨g, 0, none⟩) := hd 2 66 rfl (by kernel_rfl)
          clear hs hd hg
          go_simp
          exact ⟨Below.refl _ _, rfl⟩
         ·refine relOb_mk (o := ⟨some 68, _, _, _, _, _⟩) rfl (fun r V hc hf hg hs hb hd => ?_)
          have h3 : r (.tmp 67) = .pointer (some ⟨g, 1, none⟩) := hd 3 67 rfl (by kernel_rfl)
          clear hs hd hg
          go_simp
          exact ⟨Below.refl _ _, rfl⟩
         ·refine relOb_mk (o := ⟨some 69, _, _, _, _, _⟩) rfl (fun r V hc hf hg hs hb hd => ?_)
          have h4 : r (.tmp 68) = .pointer (some ⟨g, 4, none⟩) := hd 4 68 rfl (by kernel_rfl)
          have h1 : r (.tmp 65) = .int .i64 (n : Int) := hd 1 65 rfl (by kernel_rfl)
          clear hs hd hg
          have h0 : (0 : Int) ≤ n := by omega
          have h64 : (n : Int) < 64 := by have := HN64.out; omega
          go_simp
          exact ⟨Below.refl _ _, rfl⟩
         ·refine relOb_mk (o := ⟨some 70, _, _, _, _, _⟩) rfl (fun r V hc hf hg hs hb hd => ?_)
          have h5 : r (.tmp 69) = .pointer (some ⟨g, 4 + n, none⟩) := hd 5 69 rfl (by kernel_rfl)
          clear hs hd hg
          have l := blk_cell (HC5.out.below hb).blk (4 + n) _ (HT4.out)
          go_simp
          exact ⟨Below.refl _ _, rfl⟩
         ·refine relOb_mk (o := ⟨some 71, _, _, _, _, _⟩) rfl (fun r V hc hf hg hs hb hd => ?_)
          have h6 : r (.tmp 70) = .int .u8 (t : Int) := hd 6 70 rfl (by kernel_rfl)
          clear hs hd hg
          have ho1 := HSUB.out
          go_simp
          exact ⟨Below.refl _ _, rfl⟩
         ·refine relOb_mk (o := ⟨some 72, _, _, _, _, _⟩) rfl (fun r V hc hf hg hs hb hd => ?_)
          have h0 : r (.tmp 64) = .pointer (some ⟨g, 0, none⟩) := hd 0 64 rfl (by kernel_rfl)
          clear hs hd hg
          go_simp
          exact ⟨Below.refl _ _, rfl⟩
         ·refine relOb_mk (o := ⟨some 73, _, _, _, _, _⟩) rfl (fun r V hc hf hg hs hb hd => ?_)
          have h8 : r (.tmp 72) = .pointer (some ⟨g, 0, none⟩) := hd 8 72 rfl (by kernel_rfl)
          clear hs hd hg
          go_simp
          exact ⟨Below.refl _ _, rfl⟩
         ·refine relOb_mk (o := ⟨some 74, _, _, _, _, _⟩) rfl (fun r V hc hf hg hs hb hd => ?_)
          have h9 : r (.tmp 73) = .pointer (some ⟨g, 1, none⟩) := hd 9 73 rfl (by kernel_rfl)
          clear hs hd hg
          go_simp
          exact ⟨Below.refl _ _, rfl⟩
         ·refine relOb_mk (o := ⟨some 75, _, _, _, _, _⟩) rfl (fun r V hc hf hg hs hb hd => ?_)
          have h10 : r (.tmp 74) = .pointer (some ⟨g, 4, none⟩) := hd 10 74 rfl (by kernel_rfl)
          have h1 : r (.tmp 65) = .int .i64 (n : Int) := hd 1 65 rfl (by kernel_rfl)
          clear hs hd hg
          have h0 : (0 : Int) ≤ n := by omega
          have h64 : (n : Int) < 64 := by have := HN64.out; omega
          go_simp
          exact ⟨Below.refl _ _, rfl⟩
        ·intro a V hb hx
         have h0 : a.eval (.tmp 64) = .pointer (some ⟨g, 0, none⟩) := hx 0 64 rfl rfl
         have h1 : a.eval (.tmp 65) = .int .i64 (n : Int) := hx 1 65 rfl rfl
         have h2 : a.eval (.tmp 66) = .pointer (some ⟨g, 0, none⟩) := hx 2 66 rfl rfl
         have h3 : a.eval (.tmp 67) = .pointer (some ⟨g, 1, none⟩) := hx 3 67 rfl rfl
         have h4 : a.eval (.tmp 68) = .pointer (some ⟨g, 4, none⟩) := hx 4 68 rfl rfl
         have h5 : a.eval (.tmp 69) = .pointer (some ⟨g, 4 + n, none⟩) := hx 5 69 rfl rfl
         have h6 : a.eval (.tmp 70) = .int .u8 (t : Int) := hx 6 70 rfl rfl
         have h7 : a.eval (.tmp 71) = .int .u8 ((t - 1 : Nat) : Int) := hx 7 71 rfl rfl
         have h8 : a.eval (.tmp 72) = .pointer (some ⟨g, 0, none⟩) := hx 8 72 rfl rfl
         have h9 : a.eval (.tmp 73) = .pointer (some ⟨g, 1, none⟩) := hx 9 73 rfl rfl
         have h10 : a.eval (.tmp 74) = .pointer (some ⟨g, 4, none⟩) := hx 10 74 rfl rfl
         have h11 : a.eval (.tmp 75) = .pointer (some ⟨g, 4 + n, none⟩) := hx 11 75 rfl rfl
         unfold fillAll
         simp only [List.foldl_cons, List.foldl_nil, h0, h1, h2, h3, h4, h5, h6, h7, h8, h9, h10, h11, Act.put, List.setIfInBounds_toArray, List.set_cons_zero, List.set_cons_succ]
         clear h0 h1 h2 h3 h4 h5 h6 h7 h8 h9 h10 h11 hx
         have HCV := Lib.hid (HC5.out.below hb)
         have HBV := Lib.hid (below_tr HB5.out (below_g hb HC5.out.gle))
         clear hb HC5 HB5
         refine wpAny_ready (rs := [12]) (by kernel_rfl) (by simp) (AllReady.cons (o := ⟨none, _, _, _, _, _⟩) rfl (fun K hK => ?_) AllReady.nil)
         have c0 := blk_cell HCV.out.blk (4 + n) _ (HT4.out)
         have f0 := blk_free HCV.out.blk (4 + n)
         have hl := blk_lt HCV.out.blk
         go_simp
         clear c0 f0 hl
         refine name_K ?_
         intro VZ hVZ
         have hput := HCV.out.put (4 + n) _ (cs_tm _ _ _ _ _ HN64.out) (HOKT.out)
         rw [← hVZ] at hput
         have HCZ := Lib.hid hput.1
         have HBZ := Lib.hid (below_tr HBV.out hput.2)
         clear hVZ hput HCV HBV
         refine hK _ _ ?_
         clear hK K
         refine wpAny_done (by kernel_rfl) ?_ _
         go_wp2_with fail
         go_end0
         rw [HEQ.out]
         exact ⟨rfl, HCZ.out, HBZ.out⟩
       ·have d5 : ¬ (0 : Int) < (t : Int) := by omega
        have HT0 : Hid (¬ 0 < s.tm n) := Lib.hid (by rw [ht]; exact h0)
        clear ht h0 htb
        go_wp2_with fail
        refine (HFREE.out _ HBB.out).mono ?_
        rintro e w2 ⟨rfl, hb⟩
        have HC1 := Lib.hid (HC4.out.below hb)
        have HB1 := Lib.hid (below_tr HB4.out (below_g hb HC4.out.gle))
        clear hb HFREE q4 d5 d1 d3
        cases bf with
        | true =>
          go_upto_region 11 with fail
          refine wp_region_rel (by kernel_rfl) [11] 14 [0, 1, 2, 3, 4, 5, 6, 7, 8, 9, 10] [77, 78, 79, 80, 81, 82, 83, 84, 85, 86, 87] #[true, true, true, true, true, true, true, true, true, true, true, false] 1 [(fun v _ => v = .pointer (some ⟨g, 0, none⟩)), (fun v _ => v = .pointer (some ⟨g, 0, none⟩)), (fun v _ => v = .pointer (some ⟨g, 1, none⟩)), (fun v _ => v = .pointer (some ⟨g, 1, none⟩)), (fun v _ => v = .int .u64 (s.lk : Int)), (fun v _ => v = .int .i64 (n : Int)), (fun v _ => v = .int .u64 (pw n : Int)), (fun v _ => v = .int .u64 ((woBit s.lk n : Nat) : Int)), (fun v _ => v = .pointer (some ⟨g, 0, none⟩)), (fun v _ => v = .pointer (some ⟨g, 1, none⟩)), (fun v _ => v = .pointer (some ⟨g, 1, none⟩)), (fun _ _ => True)] (by kernel_rfl) (by kernel_rfl) (by kernel_rfl) (by kernel_rfl) (by kernel_rfl) rfl (by kernel_rfl) rfl ?_ ?_ ?_
          ·exact ⟨stays_is _, stays_is _, stays_is _, stays_is _, stays_is _, stays_is _, stays_is _, stays_is _, stays_is _, stays_is _, stays_is _, stays_true, trivial⟩
          ·refine ⟨?_, ?_, ?_, ?_, ?_, ?_, ?_, ?_, ?_, ?_, ?_, trivial⟩
           ·refine relOb_mk (o := ⟨some 77, _, _, _, _, _⟩) rfl (fun r V hc hf hg hs hb hd => ?_)
            have x0 : r (.tmp 0) = .pointer (some ⟨g, 0, none⟩) := hs 0 (by kernel_rfl)
            clear hs hd hg
            go_simp
            exact ⟨Below.refl _ _, rfl⟩
           ·refine relOb_mk (o := ⟨some 78, _, _, _, _, _⟩) rfl (fun r V hc hf hg hs hb hd => ?_)
            have h0 : r (.tmp 77) = .pointer (some ⟨g, 0, none⟩) := hd 0 77 rfl (by kernel_rfl)
            clear hs hd hg
            go_simp
            exact ⟨Below.refl _ _, rfl⟩
           ·refine relOb_mk (o := ⟨some 79, _, _, _, _, _⟩) rfl (fun r V hc hf hg hs hb hd => ?_)
            have h1 : r (.tmp 78) = .pointer (some ⟨g, 0, none⟩) := hd 1 78 rfl (by kernel_rfl)
            clear hs hd hg
            go_simp
            exact ⟨Below.refl _ _, rfl⟩
           ·refine relOb_mk (o := ⟨some 80, _, _, _, _, _⟩) rfl (fun r V hc hf hg hs hb hd => ?_)
            have h2 : r (.tmp 79) = .pointer (some ⟨g, 1, none⟩) := hd 2 79 rfl (by kernel_rfl)
            clear hs hd hg
            go_simp
            exact ⟨Below.refl _ _, rfl⟩
           ·refine relOb_mk (o := ⟨some 81, _, _, _, _, _⟩) rfl (fun r V hc hf hg hs hb hd => ?_)
            have h3 : r (.tmp 80) = .pointer (some ⟨g, 1, none⟩) := hd 3 80 rfl (by kernel_rfl)
            clear hs hd hg
            have l := blk_cell (HC1.out.below hb).blk 1 _ (cy_1 _ _ _ _)
            go_simp
            exact ⟨Below.refl _ _, rfl⟩
           ·refine relOb_mk (o := ⟨some 82, _, _, _, _, _⟩) rfl (fun r V hc hf hg hs hb hd => ?_)
            have x1 : r (.tmp 1) = .int .i64 (n : Int) := hs 1 (by kernel_rfl)
            clear hs hd hg
            go_simp
            exact ⟨Below.refl _ _, rfl⟩
           ·refine relOb_mk (o := ⟨some 83, _, _, _, _, _⟩) rfl (fun r V hc hf hg hs hb hd => ?_)
            have h5 : r (.tmp 82) = .int .i64 (n : Int) := hd 5 82 rfl (by kernel_rfl)
            clear hs hd hg
            have h63 := HN63.out
            have h0 : (0 : Int) ≤ n := by omega
            have h1 : min n 64 = n := by omega
            have h2 : ¬ (64 : Int) ≤ n := by omega
            have hs1 := one_form n h63
            go_simp
            exact ⟨Below.refl _ _, by simp⟩
           ·refine relOb_mk (o := ⟨some 84, _, _, _, _, _⟩) rfl (fun r V hc hf hg hs hb hd => ?_)
            have h4 : r (.tmp 81) = .int .u64 (s.lk : Int) := hd 4 81 rfl (by kernel_rfl)
            have h6 : r (.tmp 83) = .int .u64 (pw n : Int) := hd 6 83 rfl (by kernel_rfl)
            clear hs hd hg
            have ho1 := wo_form s.lk n HN63.out HSO.out.lk
            go_simp
            exact ⟨Below.refl _ _, rfl⟩
           ·refine relOb_mk (o := ⟨some 85, _, _, _, _, _⟩) rfl (fun r V hc hf hg hs hb hd => ?_)
            have h0 : r (.tmp 77) = .pointer (some ⟨g, 0, none⟩) := hd 0 77 rfl (by kernel_rfl)
            clear hs hd hg
            go_simp
            exact ⟨Below.refl _ _, rfl⟩
           ·refine relOb_mk (o := ⟨some 86, _, _, _, _, _⟩) rfl (fun r V hc hf hg hs hb hd => ?_)
            have h8 : r (.tmp 85) = .pointer (some ⟨g, 0, none⟩) := hd 8 85 rfl (by kernel_rfl)
            clear hs hd hg
            go_simp
            exact ⟨Below.refl _ _, rfl⟩
           ·refine relOb_mk (o := ⟨some 87, _, _, _, _, _⟩) rfl (fun r V hc hf hg hs hb hd => ?_)
            have h9 : r (.tmp 86) = .pointer (some ⟨g, 1, none⟩) := hd 9 86 rfl (by kernel_rfl)
            clear hs hd hg
            go_simp
            exact ⟨Below.refl _ _, rfl⟩
          ·intro a V hb hx
           have h0 : a.eval (.tmp 77) = .pointer (some ⟨g, 0, none⟩) := hx 0 77 rfl rfl
           have h1 : a.eval (.tmp 78) = .pointer (some ⟨g, 0, none⟩) := hx 1 78 rfl rfl
           have h2 : a.eval (.tmp 79) = .pointer (some ⟨g, 1, none⟩) := hx 2 79 rfl rfl
           have h3 : a.eval (.tmp 80) = .pointer (some ⟨g, 1, none⟩) := hx 3 80 rfl rfl
           have h4 : a.eval (.tmp 81) = .int .u64 (s.lk : Int) := hx 4 81 rfl rfl
           have h5 : a.eval (.tmp 82) = .int .i64 (n : Int) := hx 5 82 rfl rfl
           have h6 : a.eval (.tmp 83) = .int .u64 (pw n : Int) := hx 6 83 rfl rfl
           have h7 : a.eval (.tmp 84) = .int .u64 ((woBit s.lk n : Nat) : Int) := hx 7 84 rfl rfl
           have h8 : a.eval (.tmp 85) = .pointer (some ⟨g, 0, none⟩) := hx 8 85 rfl rfl
           have h9 : a.eval (.tmp 86) = .pointer (some ⟨g, 1, none⟩) := hx 9 86 rfl rfl
           have h10 : a.eval (.tmp 87) = .pointer (some ⟨g, 1, none⟩) := hx 10 87 rfl rfl
           unfold fillAll
           simp only [List.foldl_cons, List.foldl_nil, h0, h1, h2, h3, h4, h5, h6, h7, h8, h9, h10, Act.put, List.setIfInBounds_toArray, List.set_cons_zero, List.set_cons_succ]
           clear h0 h1 h2 h3 h4 h5 h6 h7 h8 h9 h10 hx
           have HCV := Lib.hid (HC1.out.below hb)
           have HBV := Lib.hid (below_tr HB1.out (below_g hb HC1.out.gle))
           clear hb HC1 HB1
           refine wpAny_ready (rs := [11]) (by kernel_rfl) (by simp) (AllReady.cons (o := ⟨none, _, _, _, _, _⟩) rfl (fun K hK => ?_) AllReady.nil)
           have c0 := blk_cell HCV.out.blk 1 _ (cy_1 _ _ _ _)
           have f0 := blk_free HCV.out.blk 1
           have hl := blk_lt HCV.out.blk
           go_simp
           clear c0 f0 hl
           refine name_K ?_
           intro Va hVa
           have hput := HCV.out.put 1 _ (cs_1 _ _ _ _ _) (HOK1.out)
           rw [← hVa] at hput
           have HCa := Lib.hid hput.1
           have HBa := Lib.hid (below_tr HBV.out hput.2)
           clear hVa hput HCV HBV
           refine hK _ _ ?_
           clear hK K
           refine wpAny_done (by kernel_rfl) ?_ _
           go_upto_region 12 with fail
           refine wp_region_rel (by kernel_rfl) [11] 14 [0, 1, 2, 3, 4, 5, 6, 7, 8, 9, 10] [88, 89, 90, 91, 92, 93, 94, 95, 96, 97, 98] #[true, true, true, true, true, true, true, true, true, true, true, false] 1 [(fun v _ => v = .pointer (some ⟨g, 0, none⟩)), (fun v _ => v = .pointer (some ⟨g, 0, none⟩)), (fun v _ => v = .pointer (some ⟨g, 1, none⟩)), (fun v _ => v = .pointer (some ⟨g, 2, none⟩)), (fun v _ => v = .int .u64 (s.us : Int)), (fun v _ => v = .int .i64 (n : Int)), (fun v _ => v = .int .u64 (pw n : Int)), (fun v _ => v = .int .u64 ((woBit s.us n : Nat) : Int)), (fun v _ => v = .pointer (some ⟨g, 0, none⟩)), (fun v _ => v = .pointer (some ⟨g, 1, none⟩)), (fun v _ => v = .pointer (some ⟨g, 2, none⟩)), (fun _ _ => True)] (by kernel_rfl) (by kernel_rfl) (by kernel_rfl) (by kernel_rfl) (by kernel_rfl) rfl (by kernel_rfl) rfl ?_ ?_ ?_
           ·exact ⟨stays_is _, stays_is _, stays_is _, stays_is _, stays_is _, stays_is _, stays_is _, stays_is _, stays_is _, stays_is _, stays_is _, stays_true, trivial⟩
           ·refine ⟨?_, ?_, ?_, ?_, ?_, ?_, ?_, ?_, ?_, ?_, ?_, trivial⟩
            ·refine relOb_mk (o := ⟨some 88, _, _, _, _, _⟩) rfl (fun r V hc hf hg hs hb hd => ?_)
             have x0 : r (.tmp 0) = .pointer (some ⟨g, 0, none⟩) := hs 0 (by kernel_rfl)
             clear hs hd hg
             go_simp
             exact ⟨Below.refl _ _, rfl⟩
            ·refine relOb_mk (o := ⟨some 89, _, _, _, _, _⟩) rfl (fun r V hc hf hg hs hb hd => ?_)
             have h0 : r (.tmp 88) = .pointer (some ⟨g, 0, none⟩) := hd 0 88 rfl (by kernel_rfl)
             clear hs hd hg
             go_simp
             exact ⟨Below.refl _ _, rfl⟩
            ·refine relOb_mk (o := ⟨some 90, _, _, _, _, _⟩) rfl (fun r V hc hf hg hs hb hd => ?_)
             have h1 : r (.tmp 89) = .pointer (some ⟨g, 0, none⟩) := hd 1 89 rfl (by kernel_rfl)
             clear hs hd hg
             go_simp
             exact ⟨Below.refl _ _, rfl⟩
            ·refine relOb_mk (o := ⟨some 91, _, _, _, _, _⟩) rfl (fun r V hc hf hg hs hb hd => ?_)
             have h2 : r (.tmp 90) = .pointer (some ⟨g, 1, none⟩) := hd 2 90 rfl (by kernel_rfl)
             clear hs hd hg
             go_simp
             exact ⟨Below.refl _ _, rfl⟩
            ·refine relOb_mk (o := ⟨some 92, _, _, _, _, _⟩) rfl (fun r V hc hf hg hs hb hd => ?_)
             have h3 : r (.tmp 91) = .pointer (some ⟨g, 2, none⟩) := hd 3 91 rfl (by kernel_rfl)
             clear hs hd hg
             have l := blk_cell (HCa.out.below hb).blk 2 _ (cy_2 _ _ _ _)
             go_simp
             exact ⟨Below.refl _ _, rfl⟩
            ·refine relOb_mk (o := ⟨some 93, _, _, _, _, _⟩) rfl (fun r V hc hf hg hs hb hd => ?_)
             have x1 : r (.tmp 1) = .int .i64 (n : Int) := hs 1 (by kernel_rfl)
             clear hs hd hg
             go_simp
             exact ⟨Below.refl _ _, rfl⟩
            ·refine relOb_mk (o := ⟨some 94, _, _, _, _, _⟩) rfl (fun r V hc hf hg hs hb hd => ?_)
             have h5 : r (.tmp 93) = .int .i64 (n : Int) := hd 5 93 rfl (by kernel_rfl)
             clear hs hd hg
             have h63 := HN63.out
             have h0 : (0 : Int) ≤ n := by omega
             have h1 : min n 64 = n := by omega
             have h2 : ¬ (64 : Int) ≤ n := by omega
             have hs1 := one_form n h63
             go_simp
             exact ⟨Below.refl _ _, by simp⟩
            ·refine relOb_mk (o := ⟨some 95, _, _, _, _, _⟩) rfl (fun r V hc hf hg hs hb hd => ?_)
             have h4 : r (.tmp 92) = .int .u64 (s.us : Int) := hd 4 92 rfl (by kernel_rfl)
             have h6 : r (.tmp 94) = .int .u64 (pw n : Int) := hd 6 94 rfl (by kernel_rfl)
             clear hs hd hg
             have ho1 := wo_form s.us n HN63.out HSO.out.us
             go_simp
             exact ⟨Below.refl _ _, rfl⟩
            ·refine relOb_mk (o := ⟨some 96, _, _, _, _, _⟩) rfl (fun r V hc hf hg hs hb hd => ?_)
             have h0 : r (.tmp 88) = .pointer (some ⟨g, 0, none⟩) := hd 0 88 rfl (by kernel_rfl)
             clear hs hd hg
             go_simp
             exact ⟨Below.refl _ _, rfl⟩
            ·refine relOb_mk (o := ⟨some 97, _, _, _, _, _⟩) rfl (fun r V hc hf hg hs hb hd => ?_)
             have h8 : r (.tmp 96) = .pointer (some ⟨g, 0, none⟩) := hd 8 96 rfl (by kernel_rfl)
             clear hs hd hg
             go_simp
             exact ⟨Below.refl _ _, rfl⟩
            ·refine relOb_mk (o := ⟨some 98, _, _, _, _, _⟩) rfl (fun r V hc hf hg hs hb hd => ?_)
             have h9 : r (.tmp 97) = .pointer (some ⟨g, 1, none⟩) := hd 9 97 rfl (by kernel_rfl)
             clear hs hd hg
             go_simp
             exact ⟨Below.refl _ _, rfl⟩
           ·intro a V hb hx
            have h0 : a.eval (.tmp 88) = .pointer (some ⟨g, 0, none⟩) := hx 0 88 rfl rfl
            have h1 : a.eval (.tmp 89) = .pointer (some ⟨g, 0, none⟩) := hx 1 89 rfl rfl
            have h2 : a.eval (.tmp 90) = .pointer (some ⟨g, 1, none⟩) := hx 2 90 rfl rfl
            have h3 : a.eval (.tmp 91) = .pointer (some ⟨g, 2, none⟩) := hx 3 91 rfl rfl
            have h4 : a.eval (.tmp 92) = .int .u64 (s.us : Int) := hx 4 92 rfl rfl
            have h5 : a.eval (.tmp 93) = .int .i64 (n : Int) := hx 5 93 rfl rfl
            have h6 : a.eval (.tmp 94) = .int .u64 (pw n : Int) := hx 6 94 rfl rfl
            have h7 : a.eval (.tmp 95) = .int .u64 ((woBit s.us n : Nat) : Int) := hx 7 95 rfl rfl
            have h8 : a.eval (.tmp 96) = .pointer (some ⟨g, 0, none⟩) := hx 8 96 rfl rfl
            have h9 : a.eval (.tmp 97) = .pointer (some ⟨g, 1, none⟩) := hx 9 97 rfl rfl
            have h10 : a.eval (.tmp 98) = .pointer (some ⟨g, 2, none⟩) := hx 10 98 rfl rfl
            unfold fillAll
            simp only [List.foldl_cons, List.foldl_nil, h0, h1, h2, h3, h4, h5, h6, h7, h8, h9, h10, Act.put, List.setIfInBounds_toArray, List.set_cons_zero, List.set_cons_succ]
            clear h0 h1 h2 h3 h4 h5 h6 h7 h8 h9 h10 hx
            have HCV := Lib.hid (HCa.out.below hb)
            have HBV := Lib.hid (below_tr HBa.out (below_g hb HCa.out.gle))
            clear hb HCa HBa
            refine wpAny_ready (rs := [11]) (by kernel_rfl) (by simp) (AllReady.cons (o := ⟨none, _, _, _, _, _⟩) rfl (fun K hK => ?_) AllReady.nil)
            have c0 := blk_cell HCV.out.blk 2 _ (cy_2 _ _ _ _)
            have f0 := blk_free HCV.out.blk 2
            have hl := blk_lt HCV.out.blk
            go_simp
            clear c0 f0 hl
            refine name_K ?_
            intro Vb hVb
            have hput := HCV.out.put 2 _ (cs_2 _ _ _ _ _) (HOK2.out)
            rw [← hVb] at hput
            have HCb := Lib.hid hput.1
            have HBb := Lib.hid (below_tr HBV.out hput.2)
            clear hVb hput HCV HBV
            refine hK _ _ ?_
            clear hK K
            refine wpAny_done (by kernel_rfl) ?_ _
            go_upto_region 13 with fail
            refine wp_region_rel (by kernel_rfl) [11] 14 [0, 1, 2, 3, 4, 5, 6, 7, 8, 9, 10] [99, 100, 101, 102, 103, 104, 105, 106, 107, 108, 109] #[true, true, true, true, true, true, true, true, true, true, true, false] 1 [(fun v _ => v = .pointer (some ⟨g, 0, none⟩)), (fun v _ => v = .pointer (some ⟨g, 0, none⟩)), (fun v _ => v = .pointer (some ⟨g, 1, none⟩)), (fun v _ => v = .pointer (some ⟨g, 3, none⟩)), (fun v _ => v = .int .u64 (s.ca : Int)), (fun v _ => v = .int .i64 (n : Int)), (fun v _ => v = .int .u64 (pw n : Int)), (fun v _ => v = .int .u64 ((woBit s.ca n : Nat) : Int)), (fun v _ => v = .pointer (some ⟨g, 0, none⟩)), (fun v _ => v = .pointer (some ⟨g, 1, none⟩)), (fun v _ => v = .pointer (some ⟨g, 3, none⟩)), (fun _ _ => True)] (by kernel_rfl) (by kernel_rfl) (by kernel_rfl) (by kernel_rfl) (by kernel_rfl) rfl (by kernel_rfl) rfl ?_ ?_ ?_
            ·exact ⟨stays_is _, stays_is _, stays_is _, stays_is _, stays_is _, stays_is _, stays_is _, stays_is _, stays_is _, stays_is _, stays_is _, stays_true, trivial⟩
            ·refine ⟨?_, ?_, ?_, ?_, ?_, ?_, ?_, ?_, ?_, ?_, ?_, trivial⟩
             ·refine relOb_mk (o := ⟨some 99, _, _, _, _, _⟩) rfl (fun r V hc hf hg hs hb hd => ?_)
              have x0 : r (.tmp 0) = .pointer (some ⟨g, 0, none⟩) := hs 0 (by kernel_rfl)
              clear hs hd hg
              go_simp
              exact ⟨Below.refl _ _, rfl⟩
             ·refine relOb_mk (o := ⟨some 100, _, _, _, _, _⟩) rfl (fun r V hc hf hg hs hb hd => ?_)
              have h0 : r (.tmp 99) = .pointer (some ⟨g, 0, none⟩) := hd 0 99 rfl (by kernel_rfl)
              clear hs hd hg
              go_simp
              exact ⟨Below.refl _ _, rfl⟩
             ·refine relOb_mk (o := ⟨some 101, _, _, _, _, _⟩) rfl (fun r V hc hf hg hs hb hd => ?_)
              have h1 : r (.tmp 100) = .pointer (some ⟨g, 0, none⟩) := hd 1 100 rfl (by kernel_rfl)
              clear hs hd hg
              go_simp
              exact ⟨Below.refl _ _, rfl⟩
             ·refine relOb_mk (o := ⟨some 102, _, _, _, _, _⟩) rfl (fun r V hc hf hg hs hb hd => ?_)
              have h2 : r (.tmp 101) = .pointer (some ⟨g, 1, none⟩) := hd 2 101 rfl (by kernel_rfl)
              clear hs hd hg
              go_simp
              exact ⟨Below.refl _ _, rfl⟩
             ·refine relOb_mk (o := ⟨some 103, _, _, _, _, _⟩) rfl (fun r V hc hf hg hs hb hd => ?_)
              have h3 : r (.tmp 102) = .pointer (some ⟨g, 3, none⟩) := hd 3 102 rfl (by kernel_rfl)
              clear hs hd hg
              have l := blk_cell (HCb.out.below hb).blk 3 _ (cy_3 _ _ _ _)
              go_simp
              exact ⟨Below.refl _ _, rfl⟩
             ·refine relOb_mk (o := ⟨some 104, _, _, _, _, _⟩) rfl (fun r V hc hf hg hs hb hd => ?_)
              have x1 : r (.tmp 1) = .int .i64 (n : Int) := hs 1 (by kernel_rfl)
              clear hs hd hg
              go_simp
              exact ⟨Below.refl _ _, rfl⟩
             ·refine relOb_mk (o := ⟨some 105, _, _, _, _, _⟩) rfl (fun r V hc hf hg hs hb hd => ?_)
              have h5 : r (.tmp 104) = .int .i64 (n : Int) := hd 5 104 rfl (by kernel_rfl)
              clear hs hd hg
              have h63 := HN63.out
              have h0 : (0 : Int) ≤ n := by omega
              have h1 : min n 64 = n := by omega
              have h2 : ¬ (64 : Int) ≤ n := by omega
              have hs1 := one_form n h63
              go_simp
              exact ⟨Below.refl _ _, by simp⟩
             ·refine relOb_mk (o := ⟨some 106, _, _, _, _, _⟩) rfl (fun r V hc hf hg hs hb hd => ?_)
              have h4 : r (.tmp 103) = .int .u64 (s.ca : Int) := hd 4 103 rfl (by kernel_rfl)
              have h6 : r (.tmp 105) = .int .u64 (pw n : Int) := hd 6 105 rfl (by kernel_rfl)
              clear hs hd hg
              have ho1 := wo_form s.ca n HN63.out HSO.out.ca
              go_simp
              exact ⟨Below.refl _ _, rfl⟩
             ·refine relOb_mk (o := ⟨some 107, _, _, _, _, _⟩) rfl (fun r V hc hf hg hs hb hd => ?_)
              have h0 : r (.tmp 99) = .pointer (some ⟨g, 0, none⟩) := hd 0 99 rfl (by kernel_rfl)
              clear hs hd hg
              go_simp
              exact ⟨Below.refl _ _, rfl⟩
             ·refine relOb_mk (o := ⟨some 108, _, _, _, _, _⟩) rfl (fun r V hc hf hg hs hb hd => ?_)
              have h8 : r (.tmp 107) = .pointer (some ⟨g, 0, none⟩) := hd 8 107 rfl (by kernel_rfl)
              clear hs hd hg
              go_simp
              exact ⟨Below.refl _ _, rfl⟩
             ·refine relOb_mk (o := ⟨some 109, _, _, _, _, _⟩) rfl (fun r V hc hf hg hs hb hd => ?_)
              have h9 : r (.tmp 108) = .pointer (some ⟨g, 1, none⟩) := hd 9 108 rfl (by kernel_rfl)
              clear hs hd hg
              go_simp
              exact ⟨Below.refl _ _, rfl⟩
            ·intro a V hb hx
             have h0 : a.eval (.tmp 99) = .pointer (some ⟨g, 0, none⟩) := hx 0 99 rfl rfl
             have h1 : a.eval (.tmp 100) = .pointer (some ⟨g, 0, none⟩) := hx 1 100 rfl rfl
             have h2 : a.eval (.tmp 101) = .pointer (some ⟨g, 1, none⟩) := hx 2 101 rfl rfl
             have h3 : a.eval (.tmp 102) = .pointer (some ⟨g, 3, none⟩) := hx 3 102 rfl rfl
             have h4 : a.eval (.tmp 103) = .int .u64 (s.ca : Int) := hx 4 103 rfl rfl
             have h5 : a.eval (.tmp 104) = .int .i64 (n : Int) := hx 5 104 rfl rfl
             have h6 : a.eval (.tmp 105) = .int .u64 (pw n : Int) := hx 6 105 rfl rfl
             have h7 : a.eval (.tmp 106) = .int .u64 ((woBit s.ca n : Nat) : Int) := hx 7 106 rfl rfl
             have h8 : a.eval (.tmp 107) = .pointer (some ⟨g, 0, none⟩) := hx 8 107 rfl rfl
             have h9 : a.eval (.tmp 108) = .pointer (some ⟨g, 1, none⟩) := hx 9 108 rfl rfl
             have h10 : a.eval (.tmp 109) = .pointer (some ⟨g, 3, none⟩) := hx 10 109 rfl rfl
             unfold fillAll
             simp only [List.foldl_cons, List.foldl_nil, h0, h1, h2, h3, h4, h5, h6, h7, h8, h9, h10, Act.put, List.setIfInBounds_toArray, List.set_cons_zero, List.set_cons_succ]
             clear h0 h1 h2 h3 h4 h5 h6 h7 h8 h9 h10 hx
             have HCV := Lib.hid (HCb.out.below hb)
             have HBV := Lib.hid (below_tr HBb.out (below_g hb HCb.out.gle))
             clear hb HCb HBb
             refine wpAny_ready (rs := [11]) (by kernel_rfl) (by simp) (AllReady.cons (o := ⟨none, _, _, _, _, _⟩) rfl (fun K hK => ?_) AllReady.nil)
             have c0 := blk_cell HCV.out.blk 3 _ (cy_3 _ _ _ _)
             have f0 := blk_free HCV.out.blk 3
             have hl := blk_lt HCV.out.blk
             go_simp
             clear c0 f0 hl
             refine name_K ?_
             intro Vc hVc
             have hput := HCV.out.put 3 _ (cs_3 _ _ _ _ _) (HOK3.out)
             rw [← hVc] at hput
             have HCc := Lib.hid hput.1
             have HBc := Lib.hid (below_tr HBV.out hput.2)
             clear hVc hput HCV HBV
             refine hK _ _ ?_
             clear hK K
             refine wpAny_done (by kernel_rfl) ?_ _
             have l3 := blk_cell HCc.out.blk (4 + n) _ (cy_tm _ _ _ _ HN64.out)
             have f3 := blk_free HCc.out.blk (4 + n)
             have d2 : (0 : Int) ≤ n := by omega
             have d3 : (n : Int) < 64 := by have := HN64.out; omega
             go_wp2_with fail
             refine name_any ?_
             intro WZ hWZ
             have hput := HCc.out.put (4 + n) _ (cs_tm _ _ _ _ 0 HN64.out) (HOK4.out)
             have e0 : ((0 : Nat) : Int) = 0 := rfl
             rw [e0, ← hWZ] at hput
             have HEND := Lib.hid (And.intro hput.1 (below_tr HBc.out hput.2))
             clear hWZ hput l3 f3 d2 d3
             go_end0
             rw [rou_5 HU.out HF.out HCA.out HT0.out, HFR.out, if_pos rfl, rel_is]
             exact ⟨rfl, HEND.out⟩
        | false =>
          go_wp2_with fail
          go_end0
          rw [rou_5 HU.out HF.out HCA.out HT0.out, HFR.out]
          exact ⟨rfl, HC1.out, HB1.out⟩

set_option maxHeartbeats 8000000 in
theorem proceeds_is (g m u : Nat) (M : Mc) (s : St) (i : Inp) (w : World) (hC : Cy w g m M s i u) (n : Nat) (x : Ln) (hx : M.ln.l[n]? = some x) :
 Calls Try.prog 21 #[.pointer (some ⟨g, 0, none⟩), .int .i64 (n : Int)] w fun e w' => e = .returned (.bool (proS s i.oc (sideN i.no i.re) (sideN i.re i.no) n x.rw)) ∧ Below w.heap.size w w' := by
 have h63 : n ≤ 63 := by have h1 := (List.getElem?_eq_some_iff.1 hx).1; have h2 := hC.tb.rn; rw [tb_len] at h2; omega
 obtain ⟨bl, hbl⟩ : ∃ b, hasBit s.lk n = b := ⟨_, rfl⟩
 obtain ⟨bu, hbu⟩ : ∃ b, hasBit s.us n = b := ⟨_, rfl⟩
 obtain ⟨bc, hbc⟩ : ∃ b, hasBit s.ca n = b := ⟨_, rfl⟩
 obtain ⟨bf, hbf⟩ : ∃ b, freeS i.oc x.rw = b := ⟨_, rfl⟩
 obtain ⟨sa, hsa⟩ : ∃ a, sideN i.no i.re = a := ⟨_, rfl⟩
 obtain ⟨sb, hsb⟩ : ∃ a, sideN i.re i.no = a := ⟨_, rfl⟩
 have HSA : Hid (sa < 4294967296) := Lib.hid (hsa ▸ side_lt32 hC.iok.no)
 have HSB : Hid (sb < 4294967296) := Lib.hid (hsb ▸ side_lt32 hC.iok.re)
 obtain ⟨bn, hbn9⟩ : ∃ b, x.nd.l.any (fun m => !hasBit (if m.2 then sb else sa) m.1.toNat) = b := ⟨_, rfl⟩
 have HRES : Hid (proS s i.oc (sideN i.no i.re) (sideN i.re i.no) n x.rw = (bl && (!bu && !bc) && (bf && !bn))) := Lib.hid (by rw [hsa, hsb, pro_is, hbl, hbu, hbc, hbf]; show (bl && (!bu && !bc) && (bf && !x.nd.l.any _)) = _; rw [hbn9])
 have hs := hC.sok
 have HLK : Hid (Calls Try.prog 19 #[.pointer (some ⟨g, 0, none⟩), .int .i64 (n : Int)] w fun e w' => e = .returned (.bool bl) ∧ Below w.heap.size w w') := Lib.hid (locked_is bl g m u M s i w hC n h63 hbl)
 have HU : Hid (∀ V, Calls Try.prog 32 #[.int .u64 (s.us : Int), .int .i64 (n : Int)] V fun e w' => e = .returned (.bool bu) ∧ V = w') := Lib.hid (fun V => in_is bu s.us n V h63 hs.us hbu)
 have HK : Hid (∀ V, Calls Try.prog 32 #[.int .u64 (s.ca : Int), .int .i64 (n : Int)] V fun e w' => e = .returned (.bool bc) ∧ V = w') := Lib.hid (fun V => in_is bc s.ca n V h63 hs.ca hbc)
 have HFREE : Hid (∀ V, Below w.heap.size w V → Calls Try.prog 36 #[.pointer (some ⟨g, 0, none⟩), .int .i64 (n : Int)] V fun e w' => e = .returned (.bool bf) ∧ Below V.heap.size V w') := Lib.hid (fun V hV => free_is bf g m u M s i V (hC.below hV) n x hx hbf)
 obtain ⟨ia, il, ic, hcm⟩ := hC.iok.cm
 have HSD : Hid (∀ V, Calls Try.prog 38 #[.agg #[.int .u64 (i.oc : Int), .int .u32 (i.no : Int), .int .u32 (i.re : Int), .slice ia il ic]] V fun e w' => e = .returned (.tuple #[.int .u32 (sa : Int), .int .u32 (sb : Int)]) ∧ Below V.heap.size V w') := Lib.hid (fun V => by
  have h := sides_any i.oc i.no i.re ia il ic V
  rw [side_form hC.iok.no hC.iok.re, side_form hC.iok.re hC.iok.no, hsa, hsb] at h
  exact h)
 have HCM := Lib.hid hcm
 obtain ⟨N1, hN1⟩ : ∃ k, M.ln.l.length = k := ⟨_, rfl⟩
 have cm0 := blk_cell hC.mach.blk 0 _ rfl
 rw [slv hN1] at cm0
 have hlt1 : n < N1 := by rw [← hN1]; exact (List.getElem?_eq_some_iff.1 hx).1
 have hle1 : N1 ≤ 64 := by have := hC.tb.rn; rw [tb_len, hN1] at this; exact this
 have hok1 := ln_ok hC.tb hx
 obtain ⟨LC, hLC⟩ : ∃ c, M.ln.c = c := ⟨_, rfl⟩
 obtain ⟨LA, hLA⟩ : ∃ a, M.ln.a = a := ⟨_, rfl⟩
 have hlrow := hC.mach.ln.at_.row
 rw [hLA] at hlrow
 rw [hLA, hLC] at cm0
 rcases hlrow with hnil | ⟨lb, lo, hlb, hlc⟩
 ·rw [hnil] at hx; cases hx
 rw [hlb] at cm0
 have z3 := hlc n x hx 3 _ rfl
 obtain ⟨t2, ht2⟩ : ∃ k, x.nd.l.length = k := ⟨_, rfl⟩
 rw [slv ht2] at z3
 have hnm := (hC.mach.lns x (List.mem_of_getElem? hx)).nd.at_
 have hnb : ∀ y ∈ x.nd.l, 0 ≤ y.1 ∧ y.1 ≤ 63 := fun y hy => by have h := hok1.nd y hy; have h2 := hC.tb.pn; rw [tb_li] at h2; omega
 have HND : Hid (∀ (g1 g2 : Nat) (V : World), Below w.heap.size w V → V.heap[g1]? = some (.cells #[.int .u32 (sb : Int)] 33) → V.heap[g2]? = some (.cells #[.int .u32 (sa : Int)] 33) → Calls Try.prog 39 #[.slice x.nd.a t2 x.nd.c, .func (.func 40) #[] #[.pointer (some ⟨g1, 0, none⟩), .pointer (some ⟨g2, 0, none⟩)]] V fun e w' => e = .returned (.bool bn) ∧ Below V.heap.size V w') :=
  Lib.hid (fun g1 g2 V hV h1 h2 => conf_proc bn g1 g2 (fun m => !hasBit (if m.2 then sb else sa) m.1.toNat) x.nd.a t2 x.nd.c x.nd.l V hbn9 ht2 (by rw [← ht2]; exact hnm.lenM) (hnm.row.below hV) (fun U hU y hy => cl_proc g1 g2 sa sb HSA.out HSB.out y (hnb y hy) U (blk_keep hU h1) (blk_keep hU h2)))
 have HZ3 := Lib.hid z3
 have HM0 := Lib.hid cm0
 have HD2 : Hid ((n : Int) < N1) := Lib.hid (by omega)
 have HC := Lib.hid hC
 rw [HRES.out]
 clear hbl hbu hbc hbf hsa hsb hbn9 hs h63 hC hx hlc hok1 hlb hLA hLC hN1 hle1 hlt1 ht2 hcm hnm hnb z3 cm0 HRES
 go_enter Try.func21, Try.ntmps21
 go_wp2_with fail
 refine HLK.out.mono ?_
 rintro e w1 ⟨rfl, hb⟩
 have HBX := Lib.hid hb
 have l2 := blk_cell (HC.out.below hb).blk 2 _ (cy_2 _ _ _ _)
 have l3 := blk_cell (HC.out.below hb).blk 3 _ (cy_3 _ _ _ _)
 clear hb HLK
 cases bl with
 | false =>
   go_wp2_with fail
   go_ret
   exact ⟨rfl, HBX.out⟩
 | true =>
   go_wp2_with fail
   refine (HU.out _).mono ?_
   rintro e w' ⟨rfl, rfl⟩
   cases bu with
   | true =>
     go_wp2_with fail
     go_ret
     exact ⟨rfl, HBX.out⟩
   | false =>
     go_wp2_with fail
     refine (HK.out _).mono ?_
     rintro e w' ⟨rfl, rfl⟩
     clear l2 l3
     cases bc with
     | true =>
       go_wp2_with fail
       go_ret
       exact ⟨rfl, HBX.out⟩
     | false =>
       go_wp2_with fail
       refine (HFREE.out _ HBX.out).mono ?_
       rintro e w2 ⟨rfl, hb⟩
       have HB2 := Lib.hid (below_on HBX.out hb)
       clear hb HFREE
       cases bf with
       | false =>
         go_wp2_with fail
         go_ret
         exact ⟨rfl, HB2.out⟩
       | true =>
         have hc2 := (HC.out.below HB2.out).blk
         have l0 := blk_cell hc2 69 _ (cy_oc _ _ _ _)
         have l1 := blk_cell hc2 70 _ (cy_no _ _ _ _)
         have l2 := blk_cell hc2 71 _ (cy_re _ _ _ _)
         have l3 := blk_cell hc2 72 _ (cy_cm _ _ _ _)
         rw [HCM.out] at l3
         clear hc2
         go_wp2_with fail
         refine (HSD.out _).mono ?_
         rintro e w3 ⟨rfl, hb⟩
         have HB3 := Lib.hid (below_on HB2.out hb)
         clear hb l0 l1 l2 l3
         go_upto_region 4 with fail
         refine name_last (os := [.cells #[.int .u32 (sa : Int)] 33, .cells #[.int .u32 (sb : Int)] 33]) (w0 := w3) rfl ?_
         intro W hat hbw
         have q0 := hat 0 _ rfl
         have q1 := hat 1 _ rfl
         rw [Nat.add_zero] at q0
         obtain ⟨g5, hg5⟩ : ∃ g, g = w3.heap.size := ⟨_, rfl⟩
         obtain ⟨g6, hg6⟩ : ∃ g, g = g5 + 1 := ⟨_, rfl⟩
         rw [← hg5] at q0
         rw [← hg5, ← hg6] at q1
         rw [← hg5, ← hg6]
         have HQ5 := Lib.hid q0
         have HQ6 := Lib.hid q1
         have HBW := Lib.hid (below_on HB3.out hbw)
         have l0 := blk_cell (HC.out.below HBW.out).blk 0 _ (cy_0 _ _ _ _)
         have l1 := cell_later HBW.out HM0.out
         have l2 := cell_later HBW.out HZ3.out
         have d1 : (0 : Int) ≤ n := by omega
         have d2 := HD2.out
         clear hat hbw q0 q1 hg5 hg6
         go_wp2_with fail
         refine (HND.out _ _ _ HBW.out HQ6.out HQ5.out).mono ?_
         rintro e w5 ⟨rfl, hb⟩
         have HB5 := Lib.hid (below_on HBW.out hb)
         clear hb l0 l1 l2 d1 d2
         go_wp2_with fail
         go_ret
         exact ⟨by cases bn <;> rfl, HB5.out⟩
end Go.Proofs.Ytpohoannggdbjaa
