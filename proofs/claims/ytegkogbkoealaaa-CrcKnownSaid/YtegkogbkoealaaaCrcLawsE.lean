/-
  The walk of the statement CrcMended of chapter 1.
-/
import Derived.Test.YtegkogbkoealaaaCrcLawsD
namespace Go.Proofs.Ytegkogbkoealaaa
open Go.RowKit
attribute [local irreducible] Crc.it Crc.ah8 Crc.bk8 Crc.run Crc.sum Crc.step Crc.ah Crc.bk Crc.pick Crc.tab Crc.psum Crc.found noughts strOf bytesRow

theorem Crc.found_hit (u : Nat) : ∀ (j k i : Nat), k ≤ i → i < k + j → 0 < Crc.it Crc.bk8 (i + 1) u → Crc.it Crc.bk8 (i + 1) u ≤ 255 →
    ∃ r q, Crc.found (Crc.it Crc.bk8 k u) k j = some (r, q) ∧ k ≤ r ∧ r ≤ i ∧ 0 < q ∧ q ≤ 255 ∧ q = Crc.it Crc.bk8 (r + 1) u := by
  intro j
  induction j with
  | zero => intro k i h1 h2; omega
  | succ j ih =>
    intro k i h1 h2 h3 h4
    rw [Crc.found_step, ← Crc.it_succ Crc.bk8]
    by_cases h : 0 < Crc.it Crc.bk8 (k + 1) u ∧ Crc.it Crc.bk8 (k + 1) u ≤ 255
    · exact ⟨k, _, if_pos h, Nat.le_refl _, h1, h.1, h.2, rfl⟩
    · rw [if_neg h]
      have hne : i ≠ k := by rintro rfl; exact h ⟨h3, h4⟩
      obtain ⟨r, q, a, b, c, d⟩ := ih (k + 1) i (by omega) (by omega) h3 h4
      exact ⟨r, q, a, by omega, c, d⟩

/-- of a row in which one byte was changed something is found, no further back than that byte; done to the row it gives back the Sum that was -/
theorem Crc.mended (l : List Nat) (p v y n : Nat) (hn : l.length = n) (hp : p < n) (hv : l[p]? = some v) (hy : 0 < y) (hy2 : y < 256) :
    ∃ k q, Crc.found (Crc.sum l ^^^ Crc.sum (l.set p (v ^^^ y))) 0 n = some (k, q) ∧ k ≤ n - 1 - p ∧ 0 < q ∧ q ≤ 255 ∧
      ∀ x, (l.set p (v ^^^ y))[n - 1 - k]? = some x → Crc.sum ((l.set p (v ^^^ y)).set (n - 1 - k) (x ^^^ q)) = Crc.sum l := by
  have hu : Crc.sum l ^^^ Crc.sum (l.set p (v ^^^ y)) = Crc.it Crc.ah8 (n - 1 - p + 1) y := by
    rw [← sum_set' l p v (v ^^^ y) n (n - 1 - p) hn hp hv rfl, ← Nat.xor_assoc, Nat.xor_self, Nat.zero_xor, ← Nat.xor_assoc, Nat.xor_self, Nat.zero_xor]
  rw [hu]
  have hul : Crc.it Crc.ah8 (n - 1 - p + 1) y < 4294967296 := Crc.it_ah8_lt (by omega)
  have hb : Crc.it Crc.bk8 (n - 1 - p + 1) (Crc.it Crc.ah8 (n - 1 - p + 1) y) = y := Crc.back_of (by omega)
  obtain ⟨r, q, h1, h2, h3, h4, h5, h6⟩ := Crc.found_hit (Crc.it Crc.ah8 (n - 1 - p + 1) y) n 0 (n - 1 - p) (by omega) (by omega) (by rw [hb]; exact hy) (by rw [hb]; omega)
  rw [Crc.it_zero'] at h1
  refine ⟨r, q, h1, h3, h4, h5, fun x hx => ?_⟩
  have hlen : (l.set p (v ^^^ y)).length = n := by rw [List.length_set, hn]
  rw [← sum_set' (l.set p (v ^^^ y)) (n - 1 - r) x (x ^^^ q) n r hlen (by omega) hx (by omega), ← Nat.xor_assoc x, Nat.xor_self, Nat.zero_xor, h6, Crc.there_of hul, ← hu]
  rw [Nat.xor_comm (Crc.sum l), ← Nat.xor_assoc, Nat.xor_self, Nat.zero_xor]


set_option maxRecDepth 100000 in
set_option maxHeartbeats 1000000 in
theorem walk_CrcMended (a0 : Option Addr) (len0 cap0 : Nat) (z0 : List Int) (a1 a2 : Int) (w : World) (w0 : IsRow .u8 w a0 len0 cap0 z0) (w1 : (Lit.int .u16 a1).wf = true) (w2 : (Lit.int .u8 a2).wf = true) :
    Calls Try.prog 7 #[.slice a0 len0 cap0, .int .u16 a1, .int .u8 a2] w fun e w' => e = .returned (.bool true) ∧ Below w.heap.size w w' := by
  obtain ⟨l, hl, hlm, hby⟩ := w0.bytes
  obtain ⟨x, rfl, hx⟩ := u16_nat w1
  obtain ⟨y, rfl, hy⟩ := u8_nat w2
  clear w0 w1 w2
  have hlm2 : (len0 : Int) ≤ 9223372036854775807 := by unfold maxLen at hlm; omega
  by_cases h0 : len0 = 0
  · have g0 : ((len0 : Int) == 0) = true := by simp [h0]
    have H0 := Lib.hid h0
    clear h0
    go_enter Try.func7, Try.ntmps7
    go_wp2_with (go_at_call 11; refine (works_any _).mono ?_; rintro e w' ⟨rfl, hb⟩)
    go_ret
    exact ⟨rfl, by assumption⟩
  have g0 : ((len0 : Int) == 0) = false := by simp; omega
  by_cases h1 : 2000 < len0
  · go_enter Try.func7, Try.ntmps7
    go_wp2_with (go_at_call 11; refine (works_any _).mono ?_; rintro e w' ⟨rfl, hb⟩)
    go_ret
    exact ⟨rfl, by assumption⟩
  by_cases h2 : y = 0
  · have g1 : ((y : Int) == 0) = true := by simp [h2]
    have H0 := Lib.hid h2
    clear h2
    go_enter Try.func7, Try.ntmps7
    go_wp2_with (go_at_call 11; refine (works_any _).mono ?_; rintro e w' ⟨rfl, hb⟩)
    go_ret
    exact ⟨rfl, by assumption⟩
  have g1 : ((y : Int) == 0) = false := by simp; omega
  have HL := Lib.hid hl
  clear hl
  obtain ⟨p, hp, hp1⟩ : ∃ p : Nat, ((x : Int) % (len0 : Int)) = p ∧ p < len0 := ⟨x % len0, by omega, Nat.mod_lt _ (by omega)⟩
  have hs0 := run_str w a0 l len0 cap0 HL.out hby
  obtain ⟨W1, rcap, kb, hM, hB1, hsz1⟩ := run_byt_mine w l len0 hby.1 HL.out
  obtain ⟨v, hv, hvl⟩ : ∃ v, l[p]? = some v ∧ v < 256 := ⟨_, List.getElem?_eq_getElem (by rw [HL.out]; exact hp1), hby.1 _ (List.getElem_mem _)⟩
  have HV := Lib.hid hv
  have hcp := hM.2.1 p (by rw [HL.out]; exact hp1)
  have hfp := hM.2.2 p (by rw [HL.out]; exact hp1)
  rw [List.getD_eq_getElem?_getD, hv] at hcp
  simp only [Option.getD_some] at hcp
  clear hv
  have HX : Hid (bits .xor .u8 (v : Int) (y : Int) = ((v ^^^ y : Nat) : Int)) := Lib.hid (crc_xor8 v y hvl hy)
  go_enter Try.func7, Try.ntmps7
  go_wp2_with fail
  rw [HX.out]
  have hM2 := hM.store (k := p) (v := v ^^^ y) (by rw [HL.out]; exact hp1) (xor_lt8 hvl hy)
  have hB2 : Below w.heap.size w (W1.setCell ⟨w.heap.size, p, none⟩ (.int .u8 (v ^^^ y : Nat))) := hB1.setCell (Nat.le_refl _) _
  obtain ⟨W2, hW2⟩ : ∃ W2, W2 = W1.setCell ⟨w.heap.size, p, none⟩ (.int .u8 (v ^^^ y : Nat)) := ⟨_, rfl⟩
  rw [← hW2] at hM2 hB2 ⊢
  clear hW2 kb hM hB1 hsz1 hs0
  refine (sum_is l _ rfl HL.out hlm (hby.below hB2)).mono ?_
  rintro e W3 ⟨rfl, hb3⟩
  have hM3 := hM2.below hb3
  have hB3 := below_next hB2 hB2.size hb3
  have HC2 : Hid ((l.set p (v ^^^ y)).length = len0) := Lib.hid (by rw [List.length_set, HL.out])
  obtain ⟨k, q, hkq, hk, hq1, hq2, hmend⟩ := Crc.mended l p v y len0 HL.out hp1 HV.out (by omega) hy
  have HKQ : Hid (Crc.asTuple (Crc.found (Crc.sum l ^^^ Crc.sum (l.set p (v ^^^ y))) 0 (max 0 (min (len0 : Int) 65536)).toNat) = .tuple #[.int .i64 k, .int .u8 q, .bool true]) := Lib.hid (by rw [show (max 0 (min (len0 : Int) 65536)).toNat = len0 by omega, hkq]; rfl)
  have HM := Lib.hid hmend
  clear hmend hkq
  have hsl := Crc.sum_lt l hby.1
  have hsl2 := Crc.sum_lt _ hM2.1
  have HXX := Lib.hid (crc_xor _ _ hsl hsl2)
  clear hsl hsl2 hb3
  obtain ⟨x2, hx2, hx2l⟩ : ∃ x2, (l.set p (v ^^^ y))[len0 - 1 - k]? = some x2 ∧ x2 < 256 := ⟨_, List.getElem?_eq_getElem (by rw [HC2.out]; omega), hM2.1 _ (List.getElem_mem _)⟩
  have HM4 := Lib.hid (HM.out x2 hx2)
  generalize hcur : l.set p (v ^^^ y) = cur at *
  clear hcur HM
  go_wp2_with fail
  refine (sum_is cur _ rfl HC2.out hlm hM3.bytes).mono ?_
  rintro e W4 ⟨rfl, hb4⟩
  have hM4 := hM3.below hb4
  have hB4 := below_next hB3 hB3.size hb4
  go_wp2_with fail
  rw [HXX.out]
  refine (find_is _ _ _ _ HKQ.out (Crc.xor_lt32 (Crc.sum_lt l hby.1) (Crc.sum_lt _ hM4.1)) (by omega)).mono ?_
  rintro e W5 ⟨rfl, rfl⟩
  have gq : ((q : Int) == 0) = false := by simp; omega
  have hcp := hM4.2.1 (len0 - 1 - k) (by rw [HC2.out]; omega)
  have hfp := hM4.2.2 (len0 - 1 - k) (by rw [HC2.out]; omega)
  rw [List.getD_eq_getElem?_getD, hx2] at hcp
  simp only [Option.getD_some] at hcp
  clear hx2
  have HT : Hid (((len0 : Int) - 1 - k).toNat = len0 - 1 - k) := Lib.hid (by omega)
  have hkk : (k : Int) ≤ len0 - 1 - p := by omega
  have HXQ : Hid (bits .xor .u8 (x2 : Int) (q : Int) = ((x2 ^^^ q : Nat) : Int)) := Lib.hid (crc_xor8 x2 q hx2l (by omega))
  have hM5 := hM4.store (k := len0 - 1 - k) (v := x2 ^^^ q) (by rw [HC2.out]; omega) (xor_lt8 hx2l (by omega))
  have hB5 : Below w.heap.size w (W4.setCell ⟨w.heap.size, len0 - 1 - k, none⟩ (.int .u8 (x2 ^^^ q : Nat))) := hB4.setCell (Nat.le_refl _) _
  have HC5 : Hid ((cur.set (len0 - 1 - k) (x2 ^^^ q)).length = len0) := Lib.hid (by rw [List.length_set, HC2.out])
  clear hM3 hM2 hB3 hB2 hb4
  go_wp2_with fail
  rw [HXQ.out]
  refine (sum_is (cur.set (len0 - 1 - k) (x2 ^^^ q)) (Crc.sum l : Nat) (by rw [HM4.out]) HC5.out hlm hM5.bytes).mono ?_
  rintro e W6 ⟨rfl, hb6⟩
  have hB6 := below_next hB5 hB5.size hb6
  clear hM5 hM4 hcp hfp
  go_wp2_with fail
  refine (sum_is l _ rfl HL.out hlm (hby.below hB6)).mono ?_
  rintro e W7 ⟨rfl, hb7⟩
  have hB7 := below_next hB6 hB6.size hb7
  go_wp2_with fail
  refine (works_any _).mono ?_
  rintro e W8 ⟨rfl, hb8⟩
  go_wp2_with fail
  go_ret
  exact ⟨rfl, below_next hB7 hB7.size hb8⟩
end Go.Proofs.Ytegkogbkoealaaa
