/-
 Layer 10: locked, clear, free; the closures.
-/
import Derived.Test.YtpohoannggdbjaaIxC
namespace Go.Proofs.Ytpohoannggdbjaa
open Go.RowKit
set_option maxRecDepth 100000
attribute [local irreducible] Sl.v hasBit pw withBit woBit cyL stL stV tmL freeS ndBad maySet ptL setS mayCan canS canD nedS flipB mayMov movS comG relS rouS proS tidyS comsG rousS prosS nextG outS lnOk rightK rgtS eqS Mc.tb upd mayS checkS sideN
theorem cy_oc (m u : Nat) (s : St) (i : Inp) : (cyL m s i u).toArray[69]? = some (.int .u64 (i.oc : Int)) := cy_end m s i u 1 (by omega)
theorem cy_no (m u : Nat) (s : St) (i : Inp) : (cyL m s i u).toArray[70]? = some (.int .u32 (i.no : Int)) := cy_end m s i u 2 (by omega)
theorem cy_re (m u : Nat) (s : St) (i : Inp) : (cyL m s i u).toArray[71]? = some (.int .u32 (i.re : Int)) := cy_end m s i u 3 (by omega)
theorem cy_cm (m u : Nat) (s : St) (i : Inp) : (cyL m s i u).toArray[72]? = some i.cm := cy_end m s i u 4 (by omega)
theorem cy_us (m u : Nat) (s : St) (i : Inp) : (cyL m s i u).toArray[73]? = some (.int .u64 (u : Int)) := cy_end m s i u 5 (by omega)
theorem cy_pt (m u : Nat) (s : St) (i : Inp) : (cyL m s i u).toArray[68]? = some (.int .u32 (s.pt : Int)) := cy_end m s i u 0 (by omega)
theorem locked_is (b : Bool) (g m u : Nat) (M : Mc) (s : St) (i : Inp) (w : World) (hC : Cy w g m M s i u) (n : Nat) (hn : n ≤ 63) (hb : hasBit s.lk n = b) :
 Calls Try.prog 19 #[.pointer (some ⟨g, 0, none⟩), .int .i64 (n : Int)] w fun e w' => e = .returned (.bool b) ∧ Below w.heap.size w w' := by
 have c1 := blk_cell hC.blk 1 _ (cy_1 _ _ _ _)
 have HIN : Hid (∀ V, Calls Try.prog 32 #[.int .u64 (s.lk : Int), .int .i64 (n : Int)] V fun e w' => e = .returned (.bool b) ∧ V = w') := Lib.hid (fun V => in_is b s.lk n V hn hC.sok.lk hb)
 clear hb hn hC
 go_enter Try.func19, Try.ntmps19
 go_wp2_with fail
 refine (HIN.out _).mono ?_
 rintro e w' ⟨rfl, rfl⟩
 go_wp2_with fail
 go_ret
 exact ⟨rfl, Below.refl _ _⟩
theorem clear_is (b : Bool) (g m u : Nat) (M : Mc) (s : St) (i : Inp) (w : World) (hC : Cy w g m M s i u) (n : Int) (hn : 0 ≤ n ∧ n ≤ 63) (hb : hasBit i.oc n.toNat = b) :
 Calls Try.prog 37 #[.pointer (some ⟨g, 0, none⟩), .int .i64 n] w fun e w' => e = .returned (.bool (!b)) ∧ Below w.heap.size w w' := by
 obtain ⟨k, rfl⟩ : ∃ k : Nat, n = k := ⟨n.toNat, by omega⟩
 have c1 := blk_cell hC.blk 69 _ (cy_oc _ _ _ _)
 have HIN : Hid (∀ V, Calls Try.prog 32 #[.int .u64 (i.oc : Int), .int .i64 (k : Int)] V fun e w' => e = .returned (.bool b) ∧ V = w') := Lib.hid (fun V => in_is b i.oc k V (by omega) hC.iok.oc (by rw [Int.toNat_natCast] at hb; exact hb))
 clear hb hn hC
 go_enter Try.func37, Try.ntmps37
 go_wp2_with fail
 refine (HIN.out _).mono ?_
 rintro e w' ⟨rfl, rfl⟩
 go_wp2_with fail
 go_ret
 exact ⟨rfl, Below.refl _ _⟩
theorem cl_free (g1 : Nat) (g m u : Nat) (M : Mc) (s : St) (i : Inp) (w : World) (hC : Cy w g m M s i u) (hq : w.heap[g1]? = some (.cells #[.pointer (some ⟨g, 0, none⟩)] 81)) (n : Int) (hn : 0 ≤ n ∧ n ≤ 63) :
 Calls Try.prog 58 #[.int .i64 n, .pointer (some ⟨g1, 0, none⟩)] w fun e w' => e = .returned (.bool (hasBit i.oc n.toNat)) ∧ Below w.heap.size w w' := by
 obtain ⟨b, hb⟩ : ∃ b, hasBit i.oc n.toNat = b := ⟨_, rfl⟩
 have HK := Lib.hid (clear_is b g m u M s i w hC n hn hb)
 have c0 := blk_cell hq 0 _ rfl
 rw [hb]
 clear hb hn hC hq
 go_enter Try.func58, Try.ntmps58
 go_wp2_with fail
 refine HK.out.mono ?_
 rintro e w' ⟨rfl, hb⟩
 have HB := Lib.hid hb
 clear hb c0
 go_wp2_with fail
 go_ret
 exact ⟨rfl, HB.out⟩
theorem cl_move (g1 : Nat) (p : Int) (y : Int × Bool) (w : World) (hq : w.heap[g1]? = some (.cells #[.int .i64 p] 3)) :
 Calls Try.prog 57 #[.agg #[.int .i64 y.1, .bool y.2], .pointer (some ⟨g1, 0, none⟩)] w fun e w' => e = .returned (.bool (y.1 == p)) ∧ Below w.heap.size w w' := by
 go_enter Try.func57, Try.ntmps57
 go_upto_region 1 with fail
 have hbn := below1 w (.cells #[.int .i64 y.1, .bool y.2] 55)
 have hqn := alloc1 w (.cells #[.int .i64 y.1, .bool y.2] 55) (Below.refl _ _)
 obtain ⟨V, hV⟩ : ∃ V, V = w.alloc (.cells #[.int .i64 y.1, .bool y.2] 55) := ⟨_, rfl⟩
 rw [← hV] at hbn hqn ⊢
 obtain ⟨g2, hg2⟩ : ∃ g, g = w.heap.size := ⟨_, rfl⟩
 rw [← hg2] at hqn ⊢
 have c0 := blk_cell hqn 0 _ rfl
 have c1 := blk_cell (blk_keep hbn hq) 0 _ rfl
 have HB := Lib.hid hbn
 clear hbn hqn hV hg2 hq
 go_wp2_with fail
 go_ret
 exact ⟨rfl, HB.out⟩
theorem cl_proc (g1 g2 a b : Nat) (ha : a < 4294967296) (hb : b < 4294967296) (y : Int × Bool) (hy : 0 ≤ y.1 ∧ y.1 ≤ 63) (w : World) (h1 : w.heap[g1]? = some (.cells #[.int .u32 (b : Int)] 33)) (h2 : w.heap[g2]? = some (.cells #[.int .u32 (a : Int)] 33)) :
 Calls Try.prog 40 #[.agg #[.int .i64 y.1, .bool y.2], .pointer (some ⟨g1, 0, none⟩), .pointer (some ⟨g2, 0, none⟩)] w fun e w' => e = .returned (.bool (!hasBit (if y.2 then b else a) y.1.toNat)) ∧ Below w.heap.size w w' := by
 obtain ⟨y1, y2⟩ := y
 dsimp only at hy ⊢
 obtain ⟨k, rfl⟩ : ∃ k : Nat, y1 = k := ⟨y1.toNat, by omega⟩
 rw [Int.toNat_natCast]
 obtain ⟨ra, hra⟩ : ∃ r, hasBit a k = r := ⟨_, rfl⟩
 obtain ⟨rb, hrb⟩ : ∃ r, hasBit b k = r := ⟨_, rfl⟩
 have HA : Hid (∀ V, Calls Try.prog 32 #[.int .u64 (a : Int), .int .i64 (k : Int)] V fun e w' => e = .returned (.bool ra) ∧ V = w') := Lib.hid (fun V => in_is ra a k V (by omega) (by omega) hra)
 have HB : Hid (∀ V, Calls Try.prog 32 #[.int .u64 (b : Int), .int .i64 (k : Int)] V fun e w' => e = .returned (.bool rb) ∧ V = w') := Lib.hid (fun V => in_is rb b k V (by omega) (by omega) hrb)
 have ea : IntKind.u64.wrap (a : Int) = (a : Int) := by rw [IntKind.wrap_u64]; omega
 have eb : IntKind.u64.wrap (b : Int) = (b : Int) := by rw [IntKind.wrap_u64]; omega
 have hres : hasBit (if y2 = true then b else a) k = if y2 then rb else ra := by cases y2 <;> simp [hra, hrb]
 rw [hres]
 clear hres hra hrb ha hb hy
 go_enter Try.func40, Try.ntmps40
 go_upto_region 1 with fail
 have hbn := below1 w (.cells #[.int .i64 (k : Int), .bool y2] 55)
 have hqn := alloc1 w (.cells #[.int .i64 (k : Int), .bool y2] 55) (Below.refl _ _)
 obtain ⟨V, hV⟩ : ∃ V, V = w.alloc (.cells #[.int .i64 (k : Int), .bool y2] 55) := ⟨_, rfl⟩
 rw [← hV] at hbn hqn ⊢
 obtain ⟨g3, hg3⟩ : ∃ g, g = w.heap.size := ⟨_, rfl⟩
 rw [← hg3] at hqn ⊢
 have c0 := blk_cell hqn 0 _ rfl
 have c1 := blk_cell hqn 1 _ rfl
 have d1 := blk_cell (blk_keep hbn h1) 0 _ rfl
 have d2 := blk_cell (blk_keep hbn h2) 0 _ rfl
 have HN := Lib.hid hbn
 clear hbn hqn hV hg3 h1 h2
 cases y2 with
 | true =>
   go_wp2_with fail
   refine (HB.out _).mono ?_
   rintro e w' ⟨rfl, rfl⟩
   go_wp2_with fail
   go_ret
   exact ⟨rfl, HN.out⟩
 | false =>
   go_wp2_with fail
   refine (HA.out _).mono ?_
   rintro e w' ⟨rfl, rfl⟩
   go_wp2_with fail
   go_ret
   exact ⟨rfl, HN.out⟩
theorem st_0 (s : St) : (stL s).toArray[0]? = some (.int .u64 (s.lk : Int)) := by unfold stL; rfl
theorem st_1 (s : St) : (stL s).toArray[1]? = some (.int .u64 (s.us : Int)) := by unfold stL; rfl
theorem st_2 (s : St) : (stL s).toArray[2]? = some (.int .u64 (s.ca : Int)) := by unfold stL; rfl
theorem st_67 (s : St) : (stL s).toArray[67]? = some (.int .u32 (s.pt : Int)) := by rw [List.getElem?_toArray]; exact st_pt s
set_option maxHeartbeats 4000000 in
theorem free_is (b : Bool) (g m u : Nat) (M : Mc) (s : St) (i : Inp) (w : World) (hC : Cy w g m M s i u) (n : Nat) (x : Ln) (hx : M.ln.l[n]? = some x) (hb : freeS i.oc x.rw = b) :
 Calls Try.prog 36 #[.pointer (some ⟨g, 0, none⟩), .int .i64 (n : Int)] w fun e w' => e = .returned (.bool b) ∧ Below w.heap.size w w' := by
 obtain ⟨N1, hN1⟩ : ∃ k, M.ln.l.length = k := ⟨_, rfl⟩
 have cm0 := blk_cell hC.mach.blk 0 _ rfl
 rw [slv hN1] at cm0
 have hlt1 : n < N1 := by rw [← hN1]; exact (List.getElem?_eq_some_iff.1 hx).1
 have hle1 : N1 ≤ 64 := by have := hC.tb.rn; rw [tb_len, hN1] at this; exact this
 have hok1 := ln_ok hC.tb hx
 obtain ⟨LC, hLC⟩ : ∃ c, M.ln.c = c := ⟨_, rfl⟩
 obtain ⟨LA, hLA⟩ : ∃ a, M.ln.a = a := ⟨_, rfl⟩
 have hlrow := hC.mach.ln.at_.row
 rw [hLA] at hlrow
 rw [hLA, hLC] at cm0
 rcases hlrow with hnil | ⟨lb, lo, hlb, hlc⟩
 ·rw [hnil] at hx; cases hx
 rw [hlb] at cm0
 have z2 := hlc n x hx 2 _ rfl
 have hxm := hC.mach.lns x (List.mem_of_getElem? hx)
 obtain ⟨b', hb'⟩ : ∃ b', x.tk.l.any (fun k => hasBit i.oc k.toNat) = b' := ⟨_, rfl⟩
 obtain rfl : b = !b' := by rw [← hb, ← hb']; unfold freeS Ln.rw; rfl
 obtain ⟨t1, ht1⟩ : ∃ k, x.tk.l.length = k := ⟨_, rfl⟩
 have htm := hxm.tk.at_.lenM
 rw [ht1] at htm
 rw [slv ht1] at z2
 have HK : Hid (∀ (gb : Nat) (W : World), Below w.heap.size w W → W.heap[gb]? = some (.cells #[.pointer (some ⟨g, 0, none⟩)] 81) → Calls Try.prog 56 #[.slice x.tk.a t1 x.tk.c, .func (.func 58) #[] #[.pointer (some ⟨gb, 0, none⟩)]] W fun e w' => e = .returned (.bool b') ∧ Below W.heap.size W w') :=
  Lib.hid (fun gb W hW hq => conf_free b' gb (fun k => hasBit i.oc k.toNat) x.tk.a t1 x.tk.c x.tk.l W hb' ht1 htm (hxm.tk.at_.row.below hW) (fun V hV y hy => cl_free gb g m u M s i V ((hC.below hW).below hV) (blk_keep hV hq) y (hok1.tr y hy)))
 have HC := Lib.hid hC
 have hcg := hC.blk
 have d1 : (0 : Int) ≤ n := by omega
 have d2 : (n : Int) < N1 := by omega
 have HCM := Lib.hid cm0
 have HZ2 := Lib.hid z2
 clear hb hC hok1 hlc hxm hx hb' ht1 htm hlb hLA hLC hN1 hle1 hlt1 cm0 z2
 go_enter Try.func36, Try.ntmps36
 go_upto_region 1 with fail
 have hbn := below1 w (.cells #[.pointer (some ⟨g, 0, none⟩)] 81)
 have hqn := alloc1 w (.cells #[.pointer (some ⟨g, 0, none⟩)] 81) (Below.refl _ _)
 obtain ⟨V, hV⟩ : ∃ V, V = w.alloc (.cells #[.pointer (some ⟨g, 0, none⟩)] 81) := ⟨_, rfl⟩
 rw [← hV] at hbn hqn ⊢
 obtain ⟨gb, hgb⟩ : ∃ g, g = w.heap.size := ⟨_, rfl⟩
 rw [← hgb] at hqn ⊢
 have HB0 := Lib.hid hbn
 have HQ := Lib.hid hqn
 have l0 := blk_cell hqn 0 _ rfl
 have l1 := blk_cell (blk_keep hbn hcg) 0 _ (cy_0 _ _ _ _)
 have l2 := cell_later hbn HCM.out
 have l3 := cell_later hbn HZ2.out
 clear hbn hqn hV hgb hcg
 go_wp2_with fail
 refine (HK.out _ _ HB0.out HQ.out).mono ?_
 rintro e w1 ⟨rfl, hb⟩
 have HB1 := Lib.hid (below_on HB0.out hb)
 clear hb l0 l1 l2 l3
 go_wp2_with fail
 go_ret
 exact ⟨rfl, HB1.out⟩
end Go.Proofs.Ytpohoannggdbjaa
