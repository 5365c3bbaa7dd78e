/-
 Layer 10: a cycle written; cancel.
-/
import Derived.Test.YtpohoannggdbjaaIxD
import Derived.Test.YtpohoannggdbjaaMA
namespace Go.Proofs.Ytpohoannggdbjaa
open Go.RowKit
set_option maxRecDepth 100000
theorem below_g {g : Nat} {w w' : World} (h : Below w.heap.size w w') (hg : g ≤ w.heap.size) : Below g w w' := ⟨h.os, h.tape, h.output, h.size, fun k hk => h.block k (by omega)⟩
theorem below_tr {g : Nat} {a b c : World} (h : Below g a b) (k : Below g b c) : Below g a c := ⟨k.os.trans h.os, k.tape.trans h.tape, k.output.trans h.output, Nat.le_trans h.size k.size, fun i hi => (k.block i hi).trans (h.block i hi)⟩
theorem Cy.gle {w : World} {g m : Nat} {M : Mc} {s : St} {i : Inp} {u : Nat} (h : Cy w g m M s i u) : g ≤ w.heap.size := Nat.le_of_lt (blk_lt h.blk)
theorem Cy.put {w : World} {g m : Nat} {M : Mc} {s s' : St} {i : Inp} {u : Nat} (h : Cy w g m M s i u) (c : Nat) (v : Value) (hs : (cyL m s i u).toArray.setIfInBounds c v = (cyL m s' i u).toArray) (ho : s'.ok) :
 Cy (w.setCell ⟨g, c, none⟩ v) g m M s' i u ∧ Below g w (w.setCell ⟨g, c, none⟩ v) := by
 have hb : Below g w (w.setCell ⟨g, c, none⟩ v) := (Below.refl g w).setCell (p := ⟨g, c, none⟩) (Nat.le_refl _) v
 have hz : w.heap.size ≤ (w.setCell ⟨g, c, none⟩ v).heap.size := ((Only.refl g w).setCell (p := ⟨g, c, none⟩) rfl v).size
 refine ⟨h.next hb hz ?_ ho, hb⟩
 rw [← hs]
 exact blk_set h.blk c v
theorem can_no {s : St} {oc n : Nat} {x : Rw} (h : mayCan s n = false) : canS s oc n x = s := by unfold canS; rw [h]; rfl
theorem can_yes {s : St} {oc n : Nat} {x : Rw} (h : mayCan s n = true) : canS s oc n x = { s with ca := withBit s.ca n, tm := if hasBit oc x.ah.toNat then upd s.tm n 20 else s.tm } := by unfold canS; rw [h]; rfl
theorem may_can (s : St) (n : Nat) : mayCan s n = (hasBit s.lk n && (!hasBit s.us n && !hasBit s.ca n)) := rfl
theorem upd_le {f : Nat → Nat} (h : ∀ n, f n ≤ 255) (n : Nat) {v : Nat} (hv : v ≤ 255) : ∀ k, upd f n v k ≤ 255 := by
 intro k; unfold upd
 by_cases e : k = n
 ·rw [if_pos e]; exact hv
 ·rw [if_neg e]; exact h k
attribute [local irreducible] Sl.v hasBit pw withBit woBit cyL stL stV tmL freeS ndBad maySet ptL setS mayCan canS canD nedS flipB mayMov movS comG relS rouS proS tidyS comsG rousS prosS nextG outS lnOk rightK rgtS eqS Mc.tb upd mayS checkS sideN
set_option maxHeartbeats 4000000 in
theorem cancel_is (g m u : Nat) (M : Mc) (s : St) (i : Inp) (w : World) (hC : Cy w g m M s i u) (n : Nat) (x : Ln) (hx : M.ln.l[n]? = some x) :
 Calls Try.prog 34 #[.pointer (some ⟨g, 0, none⟩), .int .i64 (n : Int)] w fun e w' => e = .returned (.tuple #[]) ∧ Cy w' g m M (canS s i.oc n x.rw) i u ∧ Below g w w' := by
 have h63 : n ≤ 63 := by have h1 := (List.getElem?_eq_some_iff.1 hx).1; have h2 := hC.tb.rn; rw [tb_len] at h2; omega
 obtain ⟨bl, hbl⟩ : ∃ b, hasBit s.lk n = b := ⟨_, rfl⟩
 obtain ⟨bu, hbu⟩ : ∃ b, hasBit s.us n = b := ⟨_, rfl⟩
 obtain ⟨bc, hbc⟩ : ∃ b, hasBit s.ca n = b := ⟨_, rfl⟩
 obtain ⟨T, hT⟩ : ∃ T, canS s i.oc n x.rw = T := ⟨_, rfl⟩
 have HNO : Hid ((bl && (!bu && !bc)) = false → T = s) := Lib.hid (fun h => by rw [← hT]; exact can_no (by rw [may_can, hbl, hbu, hbc]; exact h))
 have HYES0 : Hid ((bl && (!bu && !bc)) = true → T = { s with ca := withBit s.ca n, tm := if hasBit i.oc x.rw.ah.toNat then upd s.tm n 20 else s.tm }) := Lib.hid (fun h => by rw [← hT]; exact can_yes (by rw [may_can, hbl, hbu, hbc]; exact h))
 have hs := hC.sok
 have HOR : Hid (bits .or .u64 (s.ca : Int) (pw n : Int) = ((withBit s.ca n : Nat) : Int)) := Lib.hid (or_form s.ca n h63 hs.ca)
 have HOK1 : Hid (St.ok { s with ca := withBit s.ca n }) := Lib.hid ⟨hs.lk, hs.us, withBit_lt _ _ h63 hs.ca, hs.tm, hs.pt⟩
 have HOK2 : Hid (St.ok { s with ca := withBit s.ca n, tm := upd s.tm n 20 }) := Lib.hid ⟨hs.lk, hs.us, withBit_lt _ _ h63 hs.ca, upd_le hs.tm n (by omega), hs.pt⟩
 have HLK : Hid (Calls Try.prog 19 #[.pointer (some ⟨g, 0, none⟩), .int .i64 (n : Int)] w fun e w' => e = .returned (.bool bl) ∧ Below w.heap.size w w') := Lib.hid (locked_is bl g m u M s i w hC n h63 hbl)
 have HU : Hid (∀ V, Calls Try.prog 32 #[.int .u64 (s.us : Int), .int .i64 (n : Int)] V fun e w' => e = .returned (.bool bu) ∧ V = w') := Lib.hid (fun V => in_is bu s.us n V h63 hs.us hbu)
 have HK : Hid (∀ V, Calls Try.prog 32 #[.int .u64 (s.ca : Int), .int .i64 (n : Int)] V fun e w' => e = .returned (.bool bc) ∧ V = w') := Lib.hid (fun V => in_is bc s.ca n V h63 hs.ca hbc)
 have HN63 := Lib.hid h63
 have HC := Lib.hid hC
 rw [hT]
 clear hbl hbu hbc hT hs h63 hC
 go_enter Try.func34, Try.ntmps34
 go_wp2_with fail
 refine HLK.out.mono ?_
 rintro e w1 ⟨rfl, hb⟩
 have HC0 := Lib.hid (HC.out.below hb)
 have HB0 := Lib.hid (below_g hb HC.out.gle)
 clear hb HC HLK
 have l2 := blk_cell HC0.out.blk 2 _ (cy_2 _ _ _ _)
 have l3 := blk_cell HC0.out.blk 3 _ (cy_3 _ _ _ _)
 cases bl with
 | false =>
   go_wp2_with fail
   (try simp only [Exit.inBlock, Exit.then])
   refine bodyPost_ret (results_none rfl _ _ _) rfl ?_
   exact ⟨rfl, HNO.out rfl ▸ HC0.out, HB0.out⟩
 | true =>
   go_wp2_with fail
   refine (HU.out _).mono ?_
   rintro e w' ⟨rfl, rfl⟩
   cases bu with
   | true =>
     go_wp2_with fail
     (try simp only [Exit.inBlock, Exit.then])
     refine bodyPost_ret (results_none rfl _ _ _) rfl ?_
     exact ⟨rfl, HNO.out rfl ▸ HC0.out, HB0.out⟩
   | false =>
     go_wp2_with fail
     refine (HK.out _).mono ?_
     rintro e w' ⟨rfl, rfl⟩
     cases bc with
     | true =>
       go_wp2_with fail
       (try simp only [Exit.inBlock, Exit.then])
       refine bodyPost_ret (results_none rfl _ _ _) rfl ?_
       exact ⟨rfl, HNO.out rfl ▸ HC0.out, HB0.out⟩
     | false =>
       have HYES := Lib.hid (HYES0.out rfl)
       clear HNO HYES0 l2 l3
       go_upto_region 1 with fail
       refine wp_region_rel (by kernel_rfl) [11] 14 [0, 1, 2, 3, 4, 5, 6, 7, 8, 9, 10] [26, 27, 28, 29, 30, 31, 32, 33, 34, 35, 36] #[true, true, true, true, true, true, true, true, true, true, true, false] 1 [(fun v _ => v = .pointer (some ⟨g, 0, none⟩)), (fun v _ => v = .pointer (some ⟨g, 0, none⟩)), (fun v _ => v = .pointer (some ⟨g, 1, none⟩)), (fun v _ => v = .pointer (some ⟨g, 3, none⟩)), (fun v _ => v = .int .u64 (s.ca : Int)), (fun v _ => v = .int .i64 (n : Int)), (fun v _ => v = .int .u64 (pw n : Int)), (fun v _ => v = .int .u64 ((withBit s.ca n : Nat) : Int)), (fun v _ => v = .pointer (some ⟨g, 0, none⟩)), (fun v _ => v = .pointer (some ⟨g, 1, none⟩)), (fun v _ => v = .pointer (some ⟨g, 3, none⟩)), (fun _ _ => True)] (by kernel_rfl) (by kernel_rfl) (by kernel_rfl) (by kernel_rfl) (by kernel_rfl) rfl (by kernel_rfl) rfl ?_ ?_ ?_
       ·exact ⟨stays_is _, stays_is _, stays_is _, stays_is _, stays_is _, stays_is _, stays_is _, stays_is _, stays_is _, stays_is _, stays_is _, stays_true, trivial⟩
       ·refine ⟨?_, ?_, ?_, ?_, ?_, ?_, ?_, ?_, ?_, ?_, ?_, trivial⟩
        ·refine relOb_mk (o := ⟨some 26, _, _, _, _, _⟩) rfl (fun r V hc hf hg hs hb hd => ?_)
         have x0 : r (.tmp 0) = .pointer (some ⟨g, 0, none⟩) := hs 0 (by kernel_rfl)
         clear hs hd hg
         go_simp
         exact ⟨Below.refl _ _, rfl⟩
        ·refine relOb_mk (o := ⟨some 27, _, _, _, _, _⟩) rfl (fun r V hc hf hg hs hb hd => ?_)
         have h0 : r (.tmp 26) = .pointer (some ⟨g, 0, none⟩) := hd 0 26 rfl (by kernel_rfl)
         clear hs hd hg
         go_simp
         exact ⟨Below.refl _ _, rfl⟩
        ·refine relOb_mk (o := ⟨some 28, _, _, _, _, _⟩) rfl (fun r V hc hf hg hs hb hd => ?_)
         have h1 : r (.tmp 27) = .pointer (some ⟨g, 0, none⟩) := hd 1 27 rfl (by kernel_rfl)
         clear hs hd hg
         go_simp
         exact ⟨Below.refl _ _, rfl⟩
        ·refine relOb_mk (o := ⟨some 29, _, _, _, _, _⟩) rfl (fun r V hc hf hg hs hb hd => ?_)
         have h2 : r (.tmp 28) = .pointer (some ⟨g, 1, none⟩) := hd 2 28 rfl (by kernel_rfl)
         clear hs hd hg
         go_simp
         exact ⟨Below.refl _ _, rfl⟩
        ·refine relOb_mk (o := ⟨some 30, _, _, _, _, _⟩) rfl (fun r V hc hf hg hs hb hd => ?_)
         have h3 : r (.tmp 29) = .pointer (some ⟨g, 3, none⟩) := hd 3 29 rfl (by kernel_rfl)
         clear hs hd hg
         have l := blk_cell (HC0.out.below hb).blk 3 _ (cy_3 _ _ _ _)
         go_simp
         exact ⟨Below.refl _ _, rfl⟩
        ·refine relOb_mk (o := ⟨some 31, _, _, _, _, _⟩) rfl (fun r V hc hf hg hs hb hd => ?_)
         have x1 : r (.tmp 1) = .int .i64 (n : Int) := hs 1 (by kernel_rfl)
         clear hs hd hg
         go_simp
         exact ⟨Below.refl _ _, rfl⟩
        ·refine relOb_mk (o := ⟨some 32, _, _, _, _, _⟩) rfl (fun r V hc hf hg hs hb hd => ?_)
         have h5 : r (.tmp 31) = .int .i64 (n : Int) := hd 5 31 rfl (by kernel_rfl)
         clear hs hd hg
         have h63 := HN63.out
         have h0 : (0 : Int) ≤ n := by omega
         have h1 : min n 64 = n := by omega
         have h2 : ¬ (64 : Int) ≤ n := by omega
         have hs1 := one_form n h63
         go_simp
         exact ⟨Below.refl _ _, by simp⟩
        ·refine relOb_mk (o := ⟨some 33, _, _, _, _, _⟩) rfl (fun r V hc hf hg hs hb hd => ?_)
         have h4 : r (.tmp 30) = .int .u64 (s.ca : Int) := hd 4 30 rfl (by kernel_rfl)
         have h6 : r (.tmp 32) = .int .u64 (pw n : Int) := hd 6 32 rfl (by kernel_rfl)
         clear hs hd hg
         have ho1 := HOR.out
         go_simp
         exact ⟨Below.refl _ _, rfl⟩
        ·refine relOb_mk (o := ⟨some 34, _, _, _, _, _⟩) rfl (fun r V hc hf hg hs hb hd => ?_)
         have h0 : r (.tmp 26) = .pointer (some ⟨g, 0, none⟩) := hd 0 26 rfl (by kernel_rfl)
         clear hs hd hg
         go_simp
         exact ⟨Below.refl _ _, rfl⟩
        ·refine relOb_mk (o := ⟨some 35, _, _, _, _, _⟩) rfl (fun r V hc hf hg hs hb hd => ?_)
         have h8 : r (.tmp 34) = .pointer (some ⟨g, 0, none⟩) := hd 8 34 rfl (by kernel_rfl)
         clear hs hd hg
         go_simp
         exact ⟨Below.refl _ _, rfl⟩
        ·refine relOb_mk (o := ⟨some 36, _, _, _, _, _⟩) rfl (fun r V hc hf hg hs hb hd => ?_)
         have h9 : r (.tmp 35) = .pointer (some ⟨g, 1, none⟩) := hd 9 35 rfl (by kernel_rfl)
         clear hs hd hg
         go_simp
         exact ⟨Below.refl _ _, rfl⟩
       ·intro a V hb hx
        have h0 : a.eval (.tmp 26) = .pointer (some ⟨g, 0, none⟩) := hx 0 26 rfl rfl
        have h1 : a.eval (.tmp 27) = .pointer (some ⟨g, 0, none⟩) := hx 1 27 rfl rfl
        have h2 : a.eval (.tmp 28) = .pointer (some ⟨g, 1, none⟩) := hx 2 28 rfl rfl
        have h3 : a.eval (.tmp 29) = .pointer (some ⟨g, 3, none⟩) := hx 3 29 rfl rfl
        have h4 : a.eval (.tmp 30) = .int .u64 (s.ca : Int) := hx 4 30 rfl rfl
        have h5 : a.eval (.tmp 31) = .int .i64 (n : Int) := hx 5 31 rfl rfl
        have h6 : a.eval (.tmp 32) = .int .u64 (pw n : Int) := hx 6 32 rfl rfl
        have h7 : a.eval (.tmp 33) = .int .u64 ((withBit s.ca n : Nat) : Int) := hx 7 33 rfl rfl
        have h8 : a.eval (.tmp 34) = .pointer (some ⟨g, 0, none⟩) := hx 8 34 rfl rfl
        have h9 : a.eval (.tmp 35) = .pointer (some ⟨g, 1, none⟩) := hx 9 35 rfl rfl
        have h10 : a.eval (.tmp 36) = .pointer (some ⟨g, 3, none⟩) := hx 10 36 rfl rfl
        unfold fillAll
        simp only [List.foldl_cons, List.foldl_nil, h0, h1, h2, h3, h4, h5, h6, h7, h8, h9, h10, Act.put, List.setIfInBounds_toArray, List.set_cons_zero, List.set_cons_succ]
        clear h0 h1 h2 h3 h4 h5 h6 h7 h8 h9 h10 hx
        have HCV := Lib.hid (HC0.out.below hb)
        have HBV := Lib.hid (below_tr HB0.out (below_g hb HC0.out.gle))
        clear hb
        refine wpAny_ready (rs := [11]) (by kernel_rfl) (by simp) (AllReady.cons (o := ⟨none, _, _, _, _, _⟩) rfl (fun K hK => ?_) AllReady.nil)
        have c0 := blk_cell HCV.out.blk 3 _ (cy_3 _ _ _ _)
        have f0 := blk_free HCV.out.blk 3
        have hl := blk_lt HCV.out.blk
        go_simp
        clear c0 f0 hl
        refine name_K ?_
        intro VZ hVZ
        have hput := HCV.out.put 3 _ (cs_3 _ _ _ _ _) (HOK1.out)
        rw [← hVZ] at hput
        have HCZ := Lib.hid hput.1
        have HBZ := Lib.hid (below_tr HBV.out hput.2)
        clear hVZ hput HCV HBV
        refine hK _ _ ?_
        clear hK K
        refine wpAny_done (by kernel_rfl) ?_ _
        have hcz := HCZ.out
        obtain ⟨N1, hN1⟩ : ∃ k, M.ln.l.length = k := ⟨_, rfl⟩
        have cm0 := blk_cell hcz.mach.blk 0 _ rfl
        rw [slv hN1] at cm0
        have hlt1 : n < N1 := by rw [← hN1]; exact (List.getElem?_eq_some_iff.1 hx).1
        have hle1 : N1 ≤ 64 := by have := hcz.tb.rn; rw [tb_len, hN1] at this; exact this
        have hok1 := ln_ok hcz.tb hx
        obtain ⟨LC, hLC⟩ : ∃ c, M.ln.c = c := ⟨_, rfl⟩
        obtain ⟨LA, hLA⟩ : ∃ a, M.ln.a = a := ⟨_, rfl⟩
        have hlrow := hcz.mach.ln.at_.row
        rw [hLA] at hlrow
        rw [hLA, hLC] at cm0
        rcases hlrow with hnil | ⟨lb, lo, hlb, hlc⟩
        ·rw [hnil] at hx; cases hx
        rw [hlb] at cm0
        have z1 := hlc n x hx 1 _ rfl
        obtain ⟨A, hA⟩ : ∃ a : Nat, x.ah = a := ⟨x.ah.toNat, by have := hok1.ah.1; have e : x.rw.ah = x.ah := rfl; omega⟩
        obtain ⟨ab, hab⟩ : ∃ b, hasBit i.oc x.ah.toNat = b := ⟨_, rfl⟩
        have HCL : Hid (Calls Try.prog 37 #[.pointer (some ⟨g, 0, none⟩), .int .i64 x.ah] VZ fun e w' => e = .returned (.bool (!ab)) ∧ Below VZ.heap.size VZ w') := Lib.hid (clear_is ab g m u M _ i VZ hcz x.ah hok1.ah hab)
        have HAB : Hid (hasBit i.oc x.rw.ah.toNat = ab) := Lib.hid hab
        have l0 := blk_cell hcz.blk 0 _ (cy_0 _ _ _ _)
        have d1 : (0 : Int) ≤ n := by omega
        have d2 : (n : Int) < N1 := by omega
        have d3 : (n : Int) < 64 := by omega
        have HN64 : Hid (n < 64) := Lib.hid (by omega)
        clear hlc hok1 hx hcz hlt1 hle1 hN1 hLC hLA hlb hA hab
        go_wp2_with fail
        refine HCL.out.mono ?_
        rintro e w5 ⟨rfl, hb⟩
        have HC5 := Lib.hid (HCZ.out.below hb)
        have HB5 := Lib.hid (below_tr HBZ.out (below_g hb HCZ.out.gle))
        clear hb HCZ HBZ HCL l0 z1 cm0
        cases ab with
        | true =>
          have l3 := blk_cell HC5.out.blk (4 + n) _ (cy_tm _ _ _ _ HN64.out)
          have f3 := blk_free HC5.out.blk (4 + n)
          go_wp2_with fail
          refine name_any ?_
          intro WZ hWZ
          have hput := HC5.out.put (4 + n) _ (cs_tm _ _ _ _ 20 HN64.out) (HOK2.out)
          have e20 : ((20 : Nat) : Int) = 20 := rfl
          rw [e20, ← hWZ] at hput
          have HEND := Lib.hid (And.intro hput.1 (below_tr HB5.out hput.2))
          clear hWZ hput l3 f3
          go_end0
          rw [HYES.out, HAB.out]
          exact ⟨rfl, HEND.out⟩
        | false =>
          go_wp2_with fail
          go_end0
          rw [HYES.out, HAB.out]
          exact ⟨rfl, HC5.out, HB5.out⟩
end Go.Proofs.Ytpohoannggdbjaa
