/-
  Chapter 26: the document's switch; it does what the plain switch does.
-/
import Derived.Test.YtoedipajcmmhjaaSwG
namespace Go.Proofs.Ytoedipajcmmhjaa
open Go.RowKit

/-- block g holds the document's switch s -/
def DwAt (w : World) (g : Nat) (s : Sw) : Prop := w.heap[g]? = some (.cells #[.bool s.ac, .int .i64 s.ge, .int .i64 s.gu, .int .i64 s.kn, .int .i64 s.qu] 61)
theorem DwAt.below {w w' : World} {g : Nat} {s : Sw} (h : DwAt w g s) (hb : Below w.heap.size w w') : DwAt w' g s := blk_keep hb h
theorem DwAt.only {w w' : World} {g k : Nat} {s : Sw} (h : DwAt w g s) (ho : Only k w w') (hk : g ≠ k) : DwAt w' g s := ho.keep hk h
theorem DwAt.drew {g : Nat} {w : World} {s : Sw} (h : DwAt w g s) : DwAt w.drew g s := h.below (Below.refl _ w).drew
theorem take_in {ge gu a b : Int} (h1 : inB 1099511627784 a = true) (h2 : inB 1099511627784 b = true) : takeR ge gu a b = if a < ge then ⟨ge, gu, 230⟩ else if a = ge then ⟨a, max b gu, 0⟩ else ⟨a, b, 0⟩ := by
  unfold takeR; rw [if_pos (by rw [inL_two, h1, h2]; rfl)]
theorem take_out {ge gu a b : Int} (h : inB 1099511627784 a = false ∨ inB 1099511627784 b = false) : takeR ge gu a b = ⟨ge, gu, 2⟩ := by
  unfold takeR; rw [if_neg (by rw [inL_two]; rcases h with h | h <;> simp [h])]
theorem holds_def (ge gu t : Int) : holdsB ge gu t = (decide (0 < ge) && decide (t ≤ gu - 2)) := by unfold holdsB; rfl
attribute [local irreducible] takeR holdsB tm inB inL
theorem rback_is (s : Sw) (g : Nat) (w : World) (h : DwAt w g s) : Calls Try.prog 36 #[.pointer (some ⟨g, 0, none⟩)] w fun e w' => e = .returned (.int .u8 3) ∧ DwAt w' g s.back ∧ Only g w w' := by
  have h0 := blk_cell h 0 _ rfl
  have h4 := blk_cell h 4 _ rfl
  have hf := blk_free h
  have HE : Hid (DwAt ((w.setCell ⟨g, 0, none⟩ (.bool false)).setCell ⟨g, 4, none⟩ (.int .i64 0)) g s.back) := Lib.hid (blk_set (blk_set h 0 _) 4 _)
  clear h
  go_enter Try.func36, Try.ntmps36
  go_wp2_with fail
  go_ret
  exact ⟨rfl, HE.out, ((Only.refl g w).setCell rfl _).setCell rfl _⟩
theorem rat_is (t : Int) (w : World) : Calls Try.prog 34 #[.int .i64 t] w fun e w' => e = .returned (.int .i64 (tm t)) ∧ w = w' := by
  by_cases h1 : t < 0
  · have HP : Hid (tm t = 1099511627776) := Lib.hid (by unfold tm; rw [if_pos h1])
    go_enter Try.func34, Try.ntmps34
    go_wp2_with fail
    go_ret
    exact ⟨by rw [HP.out]; rfl, rfl⟩
  by_cases h2 : 1099511627776 < t
  · have HP : Hid (tm t = 1099511627776) := Lib.hid (by unfold tm; rw [if_neg h1]; omega)
    go_enter Try.func34, Try.ntmps34
    go_wp2_with fail
    go_ret
    exact ⟨by rw [HP.out]; rfl, rfl⟩
  · have HP : Hid (tm t = t) := Lib.hid (by unfold tm; rw [if_neg h1]; omega)
    go_enter Try.func34, Try.ntmps34
    go_wp2_with fail
    go_ret
    exact ⟨by rw [HP.out]; rfl, rfl⟩
theorem r23holds_is (b : Bool) (ge gu t : Int) (w : World) (hb : holdsB ge gu t = b) (h : -9223372036854775806 ≤ gu) (h2 : gu ≤ 9223372036854775807) :
    Calls Try.prog 35 #[.int .i64 ge, .int .i64 gu, .int .i64 t] w fun e w' => e = .returned (.bool b) ∧ w = w' := by
  have hw : wrap64 (gu - 2) = gu - 2 := by unfold wrap64; omega
  rw [holds_def] at hb
  have HR := Lib.hid hb
  clear h h2 hb
  by_cases h1 : 0 < ge
  · by_cases h2 : t ≤ gu - 2
    · have HB : Hid (b = true) := Lib.hid (by rw [← HR.out, decide_eq_true h1, decide_eq_true h2]; rfl)
      go_enter Try.func35, Try.ntmps35
      go_wp2_with fail
      go_ret
      exact ⟨by rw [HB.out]; rfl, rfl⟩
    · have HB : Hid (b = false) := Lib.hid (by rw [← HR.out, decide_eq_true h1, decide_eq_false h2]; rfl)
      go_enter Try.func35, Try.ntmps35
      go_wp2_with fail
      go_ret
      exact ⟨by rw [HB.out]; rfl, rfl⟩
  · have HB : Hid (b = false) := Lib.hid (by rw [← HR.out, decide_eq_false h1]; rfl)
    go_enter Try.func35, Try.ntmps35
    go_wp2_with fail
    go_ret
    exact ⟨by rw [HB.out]; rfl, rfl⟩
set_option maxHeartbeats 1000000 in
theorem r23take_is (x y er ge gu a b : Int) (w : World) (hR : takeR ge gu a b = ⟨x, y, er⟩) :
    Calls Try.prog 37 #[.int .i64 ge, .int .i64 gu, .int .i64 a, .int .i64 b] w fun e w' => e = .returned (.tuple #[.int .i64 x, .int .i64 y, .int .i64 er]) ∧ w = w' := by
  cases h1 : inB 1099511627784 a with
  | false =>
    rw [take_out (.inl h1)] at hR
    obtain ⟨hx, hy, he⟩ := R3.mk.inj hR
    subst hx hy he
    have H1 := Lib.hid h1
    clear h1
    go_enter Try.func37, Try.ntmps37
    go_wp2_with fail
    refine (rin_is false a 1099511627784 _ H1.out).mono ?_
    rintro e w1 ⟨rfl, rfl⟩
    go_wp2_with fail
    exact bodyPost_ret (v := .tuple #[.int .i64 ge, .int .i64 gu, .int .i64 2]) (by simp [results, Try.results37, go_sem]) rfl ⟨rfl, rfl⟩
  | true =>
    have H1 := Lib.hid h1
    cases h2 : inB 1099511627784 b with
    | false =>
      rw [take_out (.inr h2)] at hR
      obtain ⟨hx, hy, he⟩ := R3.mk.inj hR
      subst hx hy he
      have H2 := Lib.hid h2
      clear h1 h2
      go_enter Try.func37, Try.ntmps37
      go_wp2_with fail
      refine (rin_is true a 1099511627784 _ H1.out).mono ?_
      rintro e w1 ⟨rfl, rfl⟩
      go_wp2_with fail
      refine (rin_is false b 1099511627784 _ H2.out).mono ?_
      rintro e w1 ⟨rfl, rfl⟩
      go_wp2_with fail
      exact bodyPost_ret (v := .tuple #[.int .i64 ge, .int .i64 gu, .int .i64 2]) (by simp [results, Try.results37, go_sem]) rfl ⟨rfl, rfl⟩
    | true =>
      have H2 := Lib.hid h2
      rw [take_in h1 h2] at hR
      clear h1 h2
      by_cases h3 : a < ge
      · skip
        skip
        rw [if_pos h3] at hR
        obtain ⟨hx, hy, he⟩ := R3.mk.inj hR
        subst hx hy he
        go_enter Try.func37, Try.ntmps37
        go_wp2_with fail
        refine (rin_is true a 1099511627784 _ H1.out).mono ?_
        rintro e w1 ⟨rfl, rfl⟩
        go_wp2_with fail
        refine (rin_is true b 1099511627784 _ H2.out).mono ?_
        rintro e w1 ⟨rfl, rfl⟩
        go_wp2_with fail
        exact bodyPost_ret (v := .tuple #[.int .i64 ge, .int .i64 gu, .int .i64 230]) (by simp [results, Try.results37, go_sem]) rfl ⟨rfl, rfl⟩
      by_cases h4 : a = ge
      · subst h4
        clear h3
        by_cases h5 : b < gu
        · skip
          rw [if_neg (Int.lt_irrefl _), if_pos rfl, Int.max_eq_right (by omega)] at hR
          skip
          obtain ⟨hx, hy, he⟩ := R3.mk.inj hR
          subst hx hy he
          go_enter Try.func37, Try.ntmps37
          go_wp2_with fail
          refine (rin_is true a 1099511627784 _ H1.out).mono ?_
          rintro e w1 ⟨rfl, rfl⟩
          go_wp2_with fail
          refine (rin_is true b 1099511627784 _ H2.out).mono ?_
          rintro e w1 ⟨rfl, rfl⟩
          go_wp2_with fail
          exact bodyPost_ret (v := .tuple #[.int .i64 a, .int .i64 gu, .int .i64 0]) (by simp [results, Try.results37, go_sem]) rfl ⟨rfl, rfl⟩
        by_cases h6 : b = gu
        · subst h6
          rw [if_neg (Int.lt_irrefl _), if_pos rfl, Int.max_eq_left (by omega)] at hR
          clear h5
          obtain ⟨hx, hy, he⟩ := R3.mk.inj hR
          subst hx hy he
          go_enter Try.func37, Try.ntmps37
          go_wp2_with fail
          refine (rin_is true a 1099511627784 _ H1.out).mono ?_
          rintro e w1 ⟨rfl, rfl⟩
          go_wp2_with fail
          refine (rin_is true b 1099511627784 _ H2.out).mono ?_
          rintro e w1 ⟨rfl, rfl⟩
          go_wp2_with fail
          exact bodyPost_ret (v := .tuple #[.int .i64 a, .int .i64 b, .int .i64 0]) (by simp [results, Try.results37, go_sem]) rfl ⟨rfl, rfl⟩
        · have h7 : gu < b := by omega
          rw [if_neg (Int.lt_irrefl _), if_pos rfl, Int.max_eq_left (by omega)] at hR
          clear h6
          obtain ⟨hx, hy, he⟩ := R3.mk.inj hR
          subst hx hy he
          go_enter Try.func37, Try.ntmps37
          go_wp2_with fail
          refine (rin_is true a 1099511627784 _ H1.out).mono ?_
          rintro e w1 ⟨rfl, rfl⟩
          go_wp2_with fail
          refine (rin_is true b 1099511627784 _ H2.out).mono ?_
          rintro e w1 ⟨rfl, rfl⟩
          go_wp2_with fail
          exact bodyPost_ret (v := .tuple #[.int .i64 a, .int .i64 b, .int .i64 0]) (by simp [results, Try.results37, go_sem]) rfl ⟨rfl, rfl⟩
      · skip
        have d2 : (a == ge) = false := by simpa using h4
        rw [if_neg h3, if_neg h4] at hR
        clear h4
        obtain ⟨hx, hy, he⟩ := R3.mk.inj hR
        subst hx hy he
        go_enter Try.func37, Try.ntmps37
        go_wp2_with fail
        refine (rin_is true a 1099511627784 _ H1.out).mono ?_
        rintro e w1 ⟨rfl, rfl⟩
        go_wp2_with fail
        refine (rin_is true b 1099511627784 _ H2.out).mono ?_
        rintro e w1 ⟨rfl, rfl⟩
        go_wp2_with fail
        exact bodyPost_ret (v := .tuple #[.int .i64 a, .int .i64 b, .int .i64 0]) (by simp [results, Try.results37, go_sem]) rfl ⟨rfl, rfl⟩
theorem rrefused_is (s : Sw) (g : Nat) (w : World) (h : DwAt w g s) : Calls Try.prog 28 #[.pointer (some ⟨g, 0, none⟩)] w fun e w' => e = .returned (.int .u8 (refR s).2) ∧ DwAt w' g (refR s).1 ∧ Only g w w' := by
  have c0 := blk_cell h 0 _ rfl
  have H := Lib.hid h
  clear h
  cases ha : s.ac with
  | true =>
    rw [ha] at c0
    have HP : Hid (refR s = (s.back, 3)) := Lib.hid (by unfold refR; rw [if_pos ha])
    clear ha
    go_enter Try.func28, Try.ntmps28
    go_wp2_with fail
    refine (rback_is s g _ H.out).mono ?_
    rintro e w1 ⟨rfl, hs, ho⟩
    go_wp2_with fail
    go_ret
    rw [HP.out]
    exact ⟨rfl, hs, ho⟩
  | false =>
    rw [ha] at c0
    have HP : Hid (refR s = (s, 0)) := Lib.hid (by unfold refR; rw [if_neg (by rw [ha]; decide)])
    clear ha
    go_enter Try.func28, Try.ntmps28
    go_wp2_with fail
    go_ret
    rw [HP.out]
    exact ⟨rfl, H.out, Only.refl g w⟩
theorem rbeat_is (s : Sw) (g : Nat) (e : Int) (w : World) (h : DwAt w g s) : Calls Try.prog 29 #[.pointer (some ⟨g, 0, none⟩), .int .i64 e] w fun x w' => x = .returned (.int .u8 (beatR s e).2) ∧ DwAt w' g (beatR s e).1 ∧ Only g w w' := by
  have c0 := blk_cell h 0 _ rfl
  have c1 := blk_cell h 1 _ rfl
  have c3 := blk_cell h 3 _ rfl
  have c4 := blk_cell h 4 _ rfl
  have hf := blk_free h
  have H := Lib.hid h
  clear h
  by_cases h1 : e < 1
  · have HP : Hid (beatR s e = (s, 0)) := Lib.hid (by unfold beatR; rw [if_pos (.inl h1)])
    go_enter Try.func29, Try.ntmps29
    go_wp2_with fail
    go_ret
    rw [HP.out]
    exact ⟨rfl, H.out, Only.refl g w⟩
  by_cases h2 : 1099511627776 < e
  · have HP : Hid (beatR s e = (s, 0)) := Lib.hid (by unfold beatR; rw [if_pos (.inr (.inl h2))])
    go_enter Try.func29, Try.ntmps29
    go_wp2_with fail
    go_ret
    rw [HP.out]
    exact ⟨rfl, H.out, Only.refl g w⟩
  by_cases h3 : e < s.kn
  · have HP : Hid (beatR s e = (s, 0)) := Lib.hid (by unfold beatR; rw [if_pos (.inr (.inr h3))])
    go_enter Try.func29, Try.ntmps29
    go_wp2_with fail
    go_ret
    rw [HP.out]
    exact ⟨rfl, H.out, Only.refl g w⟩
  have hn : ¬ (e < 1 ∨ 1099511627776 < e ∨ e < s.kn) := by omega
  cases ha : s.ac with
  | false =>
    rw [ha] at c0
    have HP : Hid (beatR s e = ({ s with kn := e, qu := 0 }, 0)) := Lib.hid (by unfold beatR; rw [if_neg hn, if_pos ha])
    clear hn ha
    go_enter Try.func29, Try.ntmps29
    go_wp2_with fail
    go_ret
    rw [HP.out]
    exact ⟨rfl, blk_set (blk_set H.out 3 _) 4 _, ((Only.refl g w).setCell rfl _).setCell rfl _⟩
  | true =>
    rw [ha] at c0
    have hna : ¬ s.ac = false := by rw [ha]; decide
    by_cases h4 : s.ge < e
    · have HP : Hid (beatR s e = (({ s with kn := e } : Sw).back, 3)) := Lib.hid (by unfold beatR; rw [if_neg hn, if_neg hna, if_pos h4])
      clear hn ha hna
      go_enter Try.func29, Try.ntmps29
      go_wp2_with fail
      refine (rback_is { s with kn := e } g _ (blk_set H.out 3 _)).mono ?_
      rintro x w1 ⟨rfl, hs, ho⟩
      have HO := Lib.hid (((Only.refl g w).setCell (p := ⟨g, 3, none⟩) rfl (.int .i64 e)).trans ho)
      clear ho
      go_wp2_with fail
      go_ret
      rw [HP.out]
      exact ⟨rfl, hs, HO.out⟩
    · have HP : Hid (beatR s e = ({ s with kn := e }, 0)) := Lib.hid (by unfold beatR; rw [if_neg hn, if_neg hna, if_neg h4])
      clear hn ha hna
      go_enter Try.func29, Try.ntmps29
      go_wp2_with fail
      go_ret
      rw [HP.out]
      exact ⟨rfl, blk_set H.out 3 _, (Only.refl g w).setCell rfl _⟩
theorem tick_lead {s : Sw} {t T : Int} (ha : s.ac = true) (hT : tm t = T) : tickR s t = if holdsB s.ge s.gu T = false then (s.back, 3) else if s.gu - T ≤ 4 then (s, 2) else (s, 0) := by
  unfold tickR leadR; rw [if_pos ha, hT]
theorem tick_stand {s : Sw} (t : Int) (ha : s.ac = false) : tickR s t = if s.qu < 4 then ({ s with qu := s.qu + 1 }, 0) else ({ s with qu := 0 }, 1) := by
  unfold tickR standR; rw [if_neg (by rw [ha]; decide)]
set_option maxHeartbeats 1000000 in
theorem rtick_is (s : Sw) (g : Nat) (t : Int) (w : World) (hs : s.ok) (h : DwAt w g s) : Calls Try.prog 26 #[.pointer (some ⟨g, 0, none⟩), .int .i64 t] w fun e w' => e = .returned (.int .u8 (tickR s t).2) ∧ DwAt w' g (tickR s t).1 ∧ Only g w w' := by
  have c0 := blk_cell h 0 _ rfl
  have c1 := blk_cell h 1 _ rfl
  have c2 := blk_cell h 2 _ rfl
  have c4 := blk_cell h 4 _ rfl
  have hf := blk_free h
  have H := Lib.hid h
  have HL := Lib.hid (show -9223372036854775806 ≤ s.gu ∧ s.gu ≤ 9223372036854775807 by have := hs.u1; have := hs.u2; omega)
  obtain ⟨T, hT⟩ : ∃ T, tm t = T := ⟨_, rfl⟩
  have hTb := tm_bounds t
  rw [hT] at hTb
  have HT := Lib.hid hT
  have HS := Lib.hid hs
  clear h hs
  cases ha : s.ac with
  | true =>
    rw [ha] at c0
    obtain ⟨B, hB⟩ : ∃ B, holdsB s.ge s.gu T = B := ⟨_, rfl⟩
    have hP := tick_lead ha hT
    have HB := Lib.hid hB
    rw [hB] at hP
    clear hB hT ha
    have k1 : ∀ w', Below w.heap.size w w' → Calls Try.prog 35 #[.int .i64 s.ge, .int .i64 s.gu, .int .i64 T] w' fun e w'' => e = .returned (.bool B) ∧ Below w.heap.size w w'' :=
      fun w' hw' => (r23holds_is B _ _ _ w' HB.out HL.out.1 HL.out.2).mono (fun e w9 ⟨h1, h2⟩ => ⟨h1, h2 ▸ hw'⟩)
    have w1 : wrap64 (T + 4) = T + 4 := by unfold wrap64; omega
    have w2 : wrap64 (T + 4 + 1) = T + 4 + 1 := by unfold wrap64; omega
    have w3 : wrap64 (T + 5) = T + 5 := by unfold wrap64; omega
    cases B with
    | false =>
      rw [if_pos rfl] at hP
      have HP := Lib.hid hP
      clear hP hTb w1 w2 w3
      skip
      go_enter Try.func26, Try.ntmps26
      go_wp2_with fail
      refine (rat_is t _).mono ?_
      rintro e w5 ⟨rfl, rfl⟩
      rw [HT.out]
      go_wp2_with fail
      refine wp_region_calm (by kernel_rfl) (by kernel_rfl) ?_
      repeat
        (with_reducible apply wpQuiet_step
         intro K hK
         go_simp
         first
           | (refine hK _ ?_; clear hK K)
           | (apply Exists.intro
              refine ⟨fun w' hw' => ?_, hK _ ?_⟩
              ·
                (first
                 | with_reducible exact k1 _ hw'
                 | (have e0 := blk_cell (blk_keep hw' H.out) 0 _ rfl
                    have e1 := blk_cell (blk_keep hw' H.out) 1 _ rfl
                    have e2 := blk_cell (blk_keep hw' H.out) 2 _ rfl
                    go_simp
                    first | done | with_reducible exact rfl | with_reducible exact ⟨rfl, rfl⟩ | with_reducible exact k1 _ hw'))
              clear hK K))
      refine wpQuiet_nil ?_
      intro w7 hw7
      have H7 := Lib.hid (H.out.below hw7)
      have HB7 := Lib.hid hw7
      clear c0 c1 c2 c4 hw7
      have c2 := blk_cell H7.out 2 _ rfl
      go_wp2_with fail
      refine (rback_is s g _ H7.out).mono ?_
      rintro e w8 ⟨rfl, hs8, ho8⟩
      go_wp2_with fail
      go_ret
      rw [HP.out]
      exact ⟨rfl, hs8, (Only.of_below HB7.out).trans ho8⟩
    | true =>
      rw [if_neg (by decide)] at hP
      by_cases h4 : s.gu - T ≤ 4
      · rw [if_pos h4] at hP
        have HP := Lib.hid hP
        have x1 : s.gu < T + 4 + 1 := by omega
        have x2 : s.gu < T + 5 := by omega
        clear hP hTb h4
        skip
        go_enter Try.func26, Try.ntmps26
        go_wp2_with fail
        refine (rat_is t _).mono ?_
        rintro e w5 ⟨rfl, rfl⟩
        rw [HT.out]
        go_wp2_with fail
        refine wp_region_calm (by kernel_rfl) (by kernel_rfl) ?_
        repeat
          (with_reducible apply wpQuiet_step
           intro K hK
           go_simp
           first
             | (refine hK _ ?_; clear hK K)
             | (apply Exists.intro
                refine ⟨fun w' hw' => ?_, hK _ ?_⟩
                ·
                  (first
                   | with_reducible exact k1 _ hw'
                   | (have e0 := blk_cell (blk_keep hw' H.out) 0 _ rfl
                      have e1 := blk_cell (blk_keep hw' H.out) 1 _ rfl
                      have e2 := blk_cell (blk_keep hw' H.out) 2 _ rfl
                      go_simp
                      first | done | with_reducible exact rfl | with_reducible exact ⟨rfl, rfl⟩ | with_reducible exact k1 _ hw'))
                clear hK K))
        refine wpQuiet_nil ?_
        intro w7 hw7
        have H7 := Lib.hid (H.out.below hw7)
        have HB7 := Lib.hid hw7
        clear c0 c1 c2 c4 hw7
        have c2 := blk_cell H7.out 2 _ rfl
        go_wp2_with fail
        go_ret
        rw [HP.out]
        exact ⟨rfl, H7.out, Only.of_below HB7.out⟩
      · rw [if_neg h4] at hP
        have HP := Lib.hid hP
        have x1 : ¬ s.gu < T + 4 + 1 := by omega
        have x2 : ¬ s.gu < T + 5 := by omega
        clear hP hTb h4
        skip
        go_enter Try.func26, Try.ntmps26
        go_wp2_with fail
        refine (rat_is t _).mono ?_
        rintro e w5 ⟨rfl, rfl⟩
        rw [HT.out]
        go_wp2_with fail
        refine wp_region_calm (by kernel_rfl) (by kernel_rfl) ?_
        repeat
          (with_reducible apply wpQuiet_step
           intro K hK
           go_simp
           first
             | (refine hK _ ?_; clear hK K)
             | (apply Exists.intro
                refine ⟨fun w' hw' => ?_, hK _ ?_⟩
                ·
                  (first
                   | with_reducible exact k1 _ hw'
                   | (have e0 := blk_cell (blk_keep hw' H.out) 0 _ rfl
                      have e1 := blk_cell (blk_keep hw' H.out) 1 _ rfl
                      have e2 := blk_cell (blk_keep hw' H.out) 2 _ rfl
                      go_simp
                      first | done | with_reducible exact rfl | with_reducible exact ⟨rfl, rfl⟩ | with_reducible exact k1 _ hw'))
                clear hK K))
        refine wpQuiet_nil ?_
        intro w7 hw7
        have H7 := Lib.hid (H.out.below hw7)
        have HB7 := Lib.hid hw7
        clear c0 c1 c2 c4 hw7
        have c2 := blk_cell H7.out 2 _ rfl
        go_wp2_with fail
        go_ret
        rw [HP.out]
        exact ⟨rfl, H7.out, Only.of_below HB7.out⟩
  | false =>
    rw [ha] at c0
    have hP := tick_stand t ha
    have hq1 := HS.out.q1
    have hq2 := HS.out.q2
    have w1 : wrap64 (s.qu + 1) = s.qu + 1 := by unfold wrap64; omega
    clear ha hT hTb
    by_cases h4 : s.qu < 4
    · rw [if_pos h4] at hP
      have HP := Lib.hid hP
      have x1 : ¬ 4 < s.qu + 1 := by omega
      clear hP h4 hq1 hq2
      go_enter Try.func26, Try.ntmps26
      go_wp2_with fail
      refine (rat_is t _).mono ?_
      rintro e w5 ⟨rfl, rfl⟩
      go_wp2_with fail
      go_ret
      rw [HP.out]
      exact ⟨rfl, blk_set H.out 4 _, (Only.refl g w).setCell rfl _⟩
    · rw [if_neg h4] at hP
      have HP := Lib.hid hP
      have x1 : 4 < s.qu + 1 := by omega
      clear hP h4 hq1 hq2
      go_enter Try.func26, Try.ntmps26
      go_wp2_with fail
      refine (rat_is t _).mono ?_
      rintro e w5 ⟨rfl, rfl⟩
      go_wp2_with fail
      go_ret
      rw [HP.out]
      exact ⟨rfl, blk_set (blk_set H.out 4 (.int .i64 (s.qu + 1))) 4 _, ((Only.refl g w).setCell rfl _).setCell rfl _⟩
theorem rholds_is (b : Bool) (s : Sw) (g : Nat) (t : Int) (w : World) (hb : holdR s t = b) (hs : s.ok) (h : DwAt w g s) : Calls Try.prog 38 #[.pointer (some ⟨g, 0, none⟩), .int .i64 t] w fun e w' => e = .returned (.bool b) ∧ Below w.heap.size w w' := by
  have c0 := blk_cell h 0 _ rfl
  have H := Lib.hid h
  have HL := Lib.hid (show -9223372036854775806 ≤ s.gu ∧ s.gu ≤ 9223372036854775807 by have := hs.u1; have := hs.u2; omega)
  obtain ⟨T, hT⟩ : ∃ T, tm t = T := ⟨_, rfl⟩
  have HT := Lib.hid hT
  obtain ⟨B, hB⟩ : ∃ B, holdsB s.ge s.gu T = B := ⟨_, rfl⟩
  have HB := Lib.hid hB
  clear h hs
  cases ha : s.ac with
  | true =>
    rw [ha] at c0
    have HAC := Lib.hid ha
    have HP : Hid (b = B) := Lib.hid (by rw [← hb]; unfold holdR; rw [ha, hT, hB]; rfl)
    clear ha hT hB hb
    have k1 : ∀ w', Below w.heap.size w w' → Calls Try.prog 35 #[.int .i64 s.ge, .int .i64 s.gu, .int .i64 T] w' fun e w'' => e = .returned (.bool B) ∧ Below w.heap.size w w'' :=
      fun w' hw' => (r23holds_is B _ _ _ w' HB.out HL.out.1 HL.out.2).mono (fun e w9 ⟨h1, h2⟩ => ⟨h1, h2 ▸ hw'⟩)
    have k2 : ∀ w', Below w.heap.size w w' → Calls Try.prog 34 #[.int .i64 t] w' fun e w'' => e = .returned (.int .i64 T) ∧ Below w.heap.size w w'' :=
      fun w' hw' => HT.out ▸ (rat_is t w').mono (fun e w9 ⟨h1, h2⟩ => ⟨h1, h2 ▸ hw'⟩)
    go_enter Try.func38, Try.ntmps38
    go_wp2_with fail
    refine wp_region_calm (by kernel_rfl) (by kernel_rfl) ?_
    repeat
      (with_reducible apply wpQuiet_step
       intro K hK
       go_simp
       first
         | (refine hK _ ?_; clear hK K)
         | (apply Exists.intro
            refine ⟨fun w' hw' => ?_, hK _ ?_⟩
            ·
              (first
               | with_reducible exact k1 _ hw'
               | with_reducible exact k2 _ hw'
               | (have e0 := blk_cell (blk_keep hw' H.out) 0 _ rfl |>.trans (show some (Value.bool s.ac) = some (Value.bool true) by rw [HAC.out])
                  have e1 := blk_cell (blk_keep hw' H.out) 1 _ rfl
                  have e2 := blk_cell (blk_keep hw' H.out) 2 _ rfl
                  go_simp
                  first | done | with_reducible exact rfl | with_reducible exact ⟨rfl, rfl⟩ | with_reducible exact k1 _ hw' | with_reducible exact k2 _ hw'))
            clear hK K))
    refine wpQuiet_nil ?_
    intro w7 hw7
    go_wp2_with fail
    go_ret
    rw [HP.out]
    exact ⟨rfl, hw7⟩
  | false =>
    rw [ha] at c0
    have HP : Hid (b = false) := Lib.hid (by rw [← hb]; unfold holdR; rw [ha]; rfl)
    clear ha hT hB hb
    go_enter Try.func38, Try.ntmps38
    go_wp2_with fail
    go_quiet (fail)
    go_wp2_with fail
    go_ret
    rw [HP.out]
    exact ⟨rfl, below_drewN (Below.refl _ w) _⟩
theorem rset5 {g : Nat} {w : World} {s : Sw} (h : DwAt w g s) (x y a : Int) : DwAt (((((w.setCell ⟨g, 1, none⟩ (.int .i64 x)).setCell ⟨g, 2, none⟩ (.int .i64 y)).setCell ⟨g, 0, none⟩ (.bool true)).setCell ⟨g, 3, none⟩ (.int .i64 a)).setCell ⟨g, 4, none⟩ (.int .i64 0)) g ⟨s.p, x, y, true, a, 0⟩ := by
  have h0 := blk_set h 1 (.int .i64 x)
  have h1 := blk_set h0 2 (.int .i64 y)
  have h2 := blk_set h1 0 (.bool true)
  have h3 := blk_set h2 3 (.int .i64 a)
  exact blk_set h3 4 (.int .i64 0)
set_option maxHeartbeats 2000000 in
theorem rgranted_is (s : Sw) (g : Nat) (a b : Int) (w : World) (h : DwAt w g s) : Calls Try.prog 27 #[.pointer (some ⟨g, 0, none⟩), .int .i64 a, .int .i64 b] w fun e w' => e = .returned (.int .i64 (grantR s a b).2) ∧ DwAt w' g (grantR s a b).1 ∧ Only g w w' := by
  have c0 := blk_cell h 0 _ rfl
  have c1 := blk_cell h 1 _ rfl
  have c2 := blk_cell h 2 _ rfl
  have c3 := blk_cell h 3 _ rfl
  have c4 := blk_cell h 4 _ rfl
  have hf := blk_free h
  have H := Lib.hid h
  clear h
  by_cases h1 : a < 1
  · have HP : Hid (grantR s a b = (s, 2)) := Lib.hid (by unfold grantR; rw [if_pos (.inl h1)])
    go_enter Try.func27, Try.ntmps27
    go_wp2_with fail
    go_ret
    rw [HP.out]
    exact ⟨rfl, H.out, Only.refl g w⟩
  by_cases h2 : 1099511627776 < a
  · have HP : Hid (grantR s a b = (s, 2)) := Lib.hid (by unfold grantR; rw [if_pos (.inr h2)])
    go_enter Try.func27, Try.ntmps27
    go_wp2_with fail
    go_ret
    rw [HP.out]
    exact ⟨rfl, H.out, Only.refl g w⟩
  obtain ⟨x, y, er, hR⟩ : ∃ x y er, takeR s.ge s.gu a b = ⟨x, y, er⟩ := ⟨_, _, _, rfl⟩
  have hQ : grantR s a b = if er ≠ 0 then (s, er) else if a = s.ge ∧ s.ac = false then (s, 4) else if a < s.kn then (s, 230) else (⟨s.p, x, y, true, a, 0⟩, 0) := by unfold grantR; rw [if_neg (by omega), hR]
  have HT := Lib.hid hR
  clear hR
  have k1 : ∀ w', Below w.heap.size w w' → Calls Try.prog 37 #[.int .i64 s.ge, .int .i64 s.gu, .int .i64 a, .int .i64 b] w' fun e w'' => e = .returned (.tuple #[.int .i64 x, .int .i64 y, .int .i64 er]) ∧ Below w.heap.size w w'' :=
    fun w' hw' => (r23take_is x y er _ _ _ _ w' HT.out).mono (fun e w9 ⟨h1, h2⟩ => ⟨h1, h2 ▸ hw'⟩)
  by_cases h3 : er = 0
  · subst h3
    rw [if_neg (by decide)] at hQ
    cases ha : s.ac with
    | false =>
      have HC0 := Lib.hid (show some (Value.bool s.ac) = some (Value.bool false) by rw [ha])
      rw [ha] at c0
      by_cases h5 : a = s.ge
      · have d5 : (a == s.ge) = true := by simpa using h5
        rw [if_pos ⟨h5, ha⟩] at hQ
        have HP := Lib.hid hQ
        clear hQ h5 ha
        go_enter Try.func27, Try.ntmps27
        go_wp2_with fail
        refine wp_region_calm (by kernel_rfl) (by kernel_rfl) ?_
        repeat
          (with_reducible apply wpQuiet_step
           intro K hK
           go_simp
           first
             | (refine hK _ ?_; clear hK K)
             | (apply Exists.intro
                refine ⟨fun w' hw' => ?_, hK _ ?_⟩
                ·
                  (first
                   | with_reducible exact k1 _ hw'
                   | (have e0 := blk_cell (blk_keep hw' H.out) 0 _ rfl
                      have e1 := blk_cell (blk_keep hw' H.out) 1 _ rfl
                      have e2 := blk_cell (blk_keep hw' H.out) 2 _ rfl
                      go_simp
                      first | done | with_reducible exact rfl | with_reducible exact ⟨rfl, rfl⟩ | with_reducible exact k1 _ hw'))
                clear hK K))
        refine wpQuiet_nil ?_
        intro w7 hw7
        have H7 := Lib.hid (H.out.below hw7)
        have HB7 := Lib.hid hw7
        clear c0 c1 c2 c3 c4 hf hw7
        have c0 := blk_cell H7.out 0 _ rfl |>.trans HC0.out
        have c1 := blk_cell H7.out 1 _ rfl
        have c2 := blk_cell H7.out 2 _ rfl
        have c3 := blk_cell H7.out 3 _ rfl
        have c4 := blk_cell H7.out 4 _ rfl
        have hf := blk_free H7.out
        go_wp2_with fail
        go_ret
        rw [HP.out]
        exact ⟨rfl, H7.out, Only.of_below HB7.out⟩
      · have d5 : (a == s.ge) = false := by simpa using h5
        rw [if_neg (fun h => h5 h.1)] at hQ
        clear h5 ha
        by_cases h6 : a < s.kn
        · rw [if_pos h6] at hQ
          have HP := Lib.hid hQ
          clear hQ
          go_enter Try.func27, Try.ntmps27
          go_wp2_with fail
          refine wp_region_calm (by kernel_rfl) (by kernel_rfl) ?_
          repeat
            (with_reducible apply wpQuiet_step
             intro K hK
             go_simp
             first
               | (refine hK _ ?_; clear hK K)
               | (apply Exists.intro
                  refine ⟨fun w' hw' => ?_, hK _ ?_⟩
                  ·
                    (first
                     | with_reducible exact k1 _ hw'
                     | (have e0 := blk_cell (blk_keep hw' H.out) 0 _ rfl
                        have e1 := blk_cell (blk_keep hw' H.out) 1 _ rfl
                        have e2 := blk_cell (blk_keep hw' H.out) 2 _ rfl
                        go_simp
                        first | done | with_reducible exact rfl | with_reducible exact ⟨rfl, rfl⟩ | with_reducible exact k1 _ hw'))
                  clear hK K))
          refine wpQuiet_nil ?_
          intro w7 hw7
          have H7 := Lib.hid (H.out.below hw7)
          have HB7 := Lib.hid hw7
          clear c0 c1 c2 c3 c4 hf hw7
          have c0 := blk_cell H7.out 0 _ rfl |>.trans HC0.out
          have c1 := blk_cell H7.out 1 _ rfl
          have c2 := blk_cell H7.out 2 _ rfl
          have c3 := blk_cell H7.out 3 _ rfl
          have c4 := blk_cell H7.out 4 _ rfl
          have hf := blk_free H7.out
          go_wp2_with fail
          go_ret
          rw [HP.out]
          exact ⟨rfl, H7.out, Only.of_below HB7.out⟩
        · rw [if_neg h6] at hQ
          have HP := Lib.hid hQ
          clear hQ
          go_enter Try.func27, Try.ntmps27
          go_wp2_with fail
          refine wp_region_calm (by kernel_rfl) (by kernel_rfl) ?_
          repeat
            (with_reducible apply wpQuiet_step
             intro K hK
             go_simp
             first
               | (refine hK _ ?_; clear hK K)
               | (apply Exists.intro
                  refine ⟨fun w' hw' => ?_, hK _ ?_⟩
                  ·
                    (first
                     | with_reducible exact k1 _ hw'
                     | (have e0 := blk_cell (blk_keep hw' H.out) 0 _ rfl
                        have e1 := blk_cell (blk_keep hw' H.out) 1 _ rfl
                        have e2 := blk_cell (blk_keep hw' H.out) 2 _ rfl
                        go_simp
                        first | done | with_reducible exact rfl | with_reducible exact ⟨rfl, rfl⟩ | with_reducible exact k1 _ hw'))
                  clear hK K))
          refine wpQuiet_nil ?_
          intro w7 hw7
          have H7 := Lib.hid (H.out.below hw7)
          have HB7 := Lib.hid hw7
          clear c0 c1 c2 c3 c4 hf hw7
          have c0 := blk_cell H7.out 0 _ rfl |>.trans HC0.out
          have c1 := blk_cell H7.out 1 _ rfl
          have c2 := blk_cell H7.out 2 _ rfl
          have c3 := blk_cell H7.out 3 _ rfl
          have c4 := blk_cell H7.out 4 _ rfl
          have hf := blk_free H7.out
          go_wp2_with fail
          go_ret
          rw [HP.out]
          exact ⟨rfl, rset5 H7.out x y a, (Only.of_below HB7.out).trans ((((((Only.refl g _).setCell rfl _).setCell rfl _).setCell rfl _).setCell rfl _).setCell rfl _)⟩
    | true =>
      have HC0 := Lib.hid (show some (Value.bool s.ac) = some (Value.bool true) by rw [ha])
      rw [ha] at c0
      rw [if_neg (fun h => by rw [ha] at h; exact absurd h.2 (by decide))] at hQ
      obtain ⟨D, hD⟩ : ∃ D, (a == s.ge) = D := ⟨_, rfl⟩
      clear ha
      by_cases h6 : a < s.kn
      · rw [if_pos h6] at hQ
        have HP := Lib.hid hQ
        clear hQ
        cases D
        all_goals
          go_enter Try.func27, Try.ntmps27
          go_wp2_with fail
          refine wp_region_calm (by kernel_rfl) (by kernel_rfl) ?_
          repeat
            (with_reducible apply wpQuiet_step
             intro K hK
             go_simp
             first
               | (refine hK _ ?_; clear hK K)
               | (apply Exists.intro
                  refine ⟨fun w' hw' => ?_, hK _ ?_⟩
                  ·
                    (first
                     | with_reducible exact k1 _ hw'
                     | (have e0 := blk_cell (blk_keep hw' H.out) 0 _ rfl
                        have e1 := blk_cell (blk_keep hw' H.out) 1 _ rfl
                        have e2 := blk_cell (blk_keep hw' H.out) 2 _ rfl
                        go_simp
                        first | done | with_reducible exact rfl | with_reducible exact ⟨rfl, rfl⟩ | with_reducible exact k1 _ hw'))
                  clear hK K))
          refine wpQuiet_nil ?_
          intro w7 hw7
          have H7 := Lib.hid (H.out.below hw7)
          have HB7 := Lib.hid hw7
          clear c0 c1 c2 c3 c4 hf hw7
          have c0 := blk_cell H7.out 0 _ rfl |>.trans HC0.out
          have c1 := blk_cell H7.out 1 _ rfl
          have c2 := blk_cell H7.out 2 _ rfl
          have c3 := blk_cell H7.out 3 _ rfl
          have c4 := blk_cell H7.out 4 _ rfl
          have hf := blk_free H7.out
          go_wp2_with fail
          go_ret
          rw [HP.out]
          exact ⟨rfl, H7.out, Only.of_below HB7.out⟩
      · rw [if_neg h6] at hQ
        have HP := Lib.hid hQ
        clear hQ
        cases D
        all_goals
          go_enter Try.func27, Try.ntmps27
          go_wp2_with fail
          refine wp_region_calm (by kernel_rfl) (by kernel_rfl) ?_
          repeat
            (with_reducible apply wpQuiet_step
             intro K hK
             go_simp
             first
               | (refine hK _ ?_; clear hK K)
               | (apply Exists.intro
                  refine ⟨fun w' hw' => ?_, hK _ ?_⟩
                  ·
                    (first
                     | with_reducible exact k1 _ hw'
                     | (have e0 := blk_cell (blk_keep hw' H.out) 0 _ rfl
                        have e1 := blk_cell (blk_keep hw' H.out) 1 _ rfl
                        have e2 := blk_cell (blk_keep hw' H.out) 2 _ rfl
                        go_simp
                        first | done | with_reducible exact rfl | with_reducible exact ⟨rfl, rfl⟩ | with_reducible exact k1 _ hw'))
                  clear hK K))
          refine wpQuiet_nil ?_
          intro w7 hw7
          have H7 := Lib.hid (H.out.below hw7)
          have HB7 := Lib.hid hw7
          clear c0 c1 c2 c3 c4 hf hw7
          have c0 := blk_cell H7.out 0 _ rfl |>.trans HC0.out
          have c1 := blk_cell H7.out 1 _ rfl
          have c2 := blk_cell H7.out 2 _ rfl
          have c3 := blk_cell H7.out 3 _ rfl
          have c4 := blk_cell H7.out 4 _ rfl
          have hf := blk_free H7.out
          go_wp2_with fail
          go_ret
          rw [HP.out]
          exact ⟨rfl, rset5 H7.out x y a, (Only.of_below HB7.out).trans ((((((Only.refl g _).setCell rfl _).setCell rfl _).setCell rfl _).setCell rfl _).setCell rfl _)⟩
  · rw [if_pos h3] at hQ
    have HP := Lib.hid hQ
    have d3 : (er == 0) = false := by simpa using h3
    have d4 : (er != 0) = true := by simpa using h3
    clear hQ h3
    go_enter Try.func27, Try.ntmps27
    go_wp2_with fail
    refine wp_region_calm (by kernel_rfl) (by kernel_rfl) ?_
    repeat
      (with_reducible apply wpQuiet_step
       intro K hK
       go_simp
       first
         | (refine hK _ ?_; clear hK K)
         | (apply Exists.intro
            refine ⟨fun w' hw' => ?_, hK _ ?_⟩
            ·
              (first
               | with_reducible exact k1 _ hw'
               | (have e0 := blk_cell (blk_keep hw' H.out) 0 _ rfl
                  have e1 := blk_cell (blk_keep hw' H.out) 1 _ rfl
                  have e2 := blk_cell (blk_keep hw' H.out) 2 _ rfl
                  go_simp
                  first | done | with_reducible exact rfl | with_reducible exact ⟨rfl, rfl⟩ | with_reducible exact k1 _ hw'))
            clear hK K))
    refine wpQuiet_nil ?_
    intro w7 hw7
    have H7 := Lib.hid (H.out.below hw7)
    have HB7 := Lib.hid hw7
    clear c0 c1 c2 c3 c4 hf hw7
    have c0 := blk_cell H7.out 0 _ rfl
    have c1 := blk_cell H7.out 1 _ rfl
    have c2 := blk_cell H7.out 2 _ rfl
    have c3 := blk_cell H7.out 3 _ rfl
    have c4 := blk_cell H7.out 4 _ rfl
    have hf := blk_free H7.out
    go_wp2_with fail
    go_ret
    rw [HP.out]
    exact ⟨rfl, H7.out, Only.of_below HB7.out⟩
end Go.Proofs.Ytoedipajcmmhjaa
