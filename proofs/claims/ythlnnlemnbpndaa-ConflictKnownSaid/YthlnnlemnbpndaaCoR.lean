/-
  The statement ConflictBoth: the walk.
-/
import Derived.Test.YthlnnlemnbpndaaCoQ
namespace Go.Proofs.Ythlnnlemnbpndaa
open Go.RowKit
set_option maxRecDepth 100000
theorem row_pair {L : Lay} {i k : Nat} (hm : mayS L = true) (hi : i < L.rt.l.length) (hk : k < L.rt.l.length) : hasBit (rowS L i) k = pairS L i k := by
  rw [rowS_test, decide_eq_true hk, Bool.true_and]
  by_cases hik : i = k
  · rw [hik, ps_no (fun h => h.2.2.2.2 rfl)]
    simp
  · rw [ps_at hm (List.getElem?_eq_getElem hi) (List.getElem?_eq_getElem hk) hik, cfS_at (List.getElem?_eq_getElem hi) (List.getElem?_eq_getElem hk), decide_eq_true hik, Bool.true_and]
theorem has_form2 (s n : Nat) (D : Bool) (hs : s < 18446744073709551616) (h : hasBit s n = D) : (bits .and .u64 ((s : Int) / 2 ^ n) 1 == 1) = D := (has_form s n hs).trans h
theorem row_high {L : Lay} (i : Nat) : ((rowS L i : Nat) : Int) / 2 ^ L.rt.l.length = 0 := by
  have h : rowS L i < 2 ^ L.rt.l.length := bitsOf_lt2 _ _
  rw [shr_pw, pw, Nat.div_eq_of_lt h]
  rfl
attribute [local irreducible] Sl.v checkS weightS pairS cofL tabL mayS tabS rowS hasBit pw

set_option maxHeartbeats 8000000 in
theorem conflictBoth_is (L : Lay) (w : World) (hL : LayAt w L) : Calls Try.prog 4 #[.agg #[L.se.v, L.po.v, L.sg.v, L.rt.v]] w fun e w' => e = .returned (.bool true) ∧ Below w.heap.size w w' := by
  obtain ⟨n1, hn1⟩ : ∃ n, L.se.l.length = n := ⟨_, rfl⟩
  obtain ⟨n2, hn2⟩ : ∃ n, L.po.l.length = n := ⟨_, rfl⟩
  obtain ⟨n3, hn3⟩ : ∃ n, L.sg.l.length = n := ⟨_, rfl⟩
  obtain ⟨n4, hn4⟩ : ∃ n, L.rt.l.length = n := ⟨_, rfl⟩
  have b0 := below1 w (.cells #[.slice L.se.a n1 L.se.c, .slice L.po.a n2 L.po.c, .slice L.sg.a n3 L.sg.c, .slice L.rt.a n4 L.rt.c] 27)
  have hq := alloc1 w (.cells #[.slice L.se.a n1 L.se.c, .slice L.po.a n2 L.po.c, .slice L.sg.a n3 L.sg.c, .slice L.rt.a n4 L.rt.c] 27) (Below.refl _ _)
  obtain ⟨W, hW⟩ : ∃ W, W = w.alloc (.cells #[.slice L.se.a n1 L.se.c, .slice L.po.a n2 L.po.c, .slice L.sg.a n3 L.sg.c, .slice L.rt.a n4 L.rt.c] 27) := ⟨_, rfl⟩
  rw [← hW] at b0 hq
  have hLW := hL.below b0
  obtain ⟨z, hz⟩ : ∃ z, weightS 1000 L = z := ⟨_, rfl⟩
  have KW : Hid (∀ w', Below W.heap.size W w' → Calls Try.prog 7 #[.agg #[L.se.v, L.po.v, L.sg.v, L.rt.v], .int .i64 1000] w' fun e w'' => e = .returned (.int .i64 z) ∧ Below W.heap.size W w'') := Lib.hid (fun w' hw' => hz ▸ (weight_is 1000 L w' (hLW.below hw')).mono (fun _ _ h => ⟨h.1, below_on hw' h.2⟩))
  have KWO : Hid (∀ w', Below W.heap.size W w' → Calls Try.prog 8 #[] w' fun e w'' => e = .returned (.bool true) ∧ Below W.heap.size W w'') := Lib.hid (fun w' hw' => (works_is w').mono (fun _ _ h => ⟨h.1, below_on hw' h.2⟩))
  obtain ⟨c, hc1⟩ : ∃ c, (checkS L).1 = c := ⟨_, rfl⟩
  have KT : Hid (∀ w', Below W.heap.size W w' → Calls Try.prog 10 #[.agg #[L.se.v, L.po.v, L.sg.v, L.rt.v]] w' fun e w'' => ∃ a m q, e = .returned (.tuple #[.slice a m q, .int .i64 c]) ∧ m = (tabL L).length ∧ SlAt 1 u64C w'' ⟨a, q, tabL L⟩ ∧ Below W.heap.size W w'') := Lib.hid (fun w' hw' => (hc1 ▸ table_is L w' (hLW.below hw')).mono (fun _ _ ⟨a, m, q, h1, h2, h3, h4⟩ => ⟨a, m, q, h1, h2, h3, below_on hw' h4⟩))
  have KP : Hid (∀ (i k : Nat) (D : Bool), pairS L i k = D → ∀ w', Below W.heap.size W w' → Calls Try.prog 13 #[.agg #[L.se.v, L.po.v, L.sg.v, L.rt.v], .int .i64 (i : Int), .int .i64 (k : Int)] w' fun e w'' => e = .returned (.bool D) ∧ Below w'.heap.size w' w'') := Lib.hid (fun i k D hD w' hw' => pair_is L i k D hD w' (hLW.below hw'))
  have HC1 := Lib.hid hc1
  clear hc1
  have HZ := Lib.hid hz
  have HN4 := Lib.hid hn4
  rw [slv hn1, slv hn2, slv hn3, slv hn4] at KW KT KP
  rw [slv hn1, slv hn2, slv hn3, slv hn4]
  have HW := Lib.hid hW
  have HB0 := Lib.hid b0
  have HQ := Lib.hid hq
  have HLW := Lib.hid hLW
  clear hn1 hn2 hn3 hn4 hLW hW b0 hq hz
  obtain ⟨gl, hgl⟩ : ∃ g, g = w.heap.size := ⟨_, rfl⟩
  have HGL := Lib.hid hgl
  rw [← hgl] at HQ
  clear hgl
  go_enter Try.func4, Try.ntmps4
  go_wp2_with fail
  rw [← HW.out, ← HGL.out]
  refine (KW.out _ (Below.refl _ _)).mono ?_
  rintro e w1 ⟨rfl, hb⟩
  have HB1 := Lib.hid hb
  clear hb
  by_cases hz : 1000 < z
  · go_wp2_with fail
    refine (KWO.out _ HB1.out).mono ?_
    rintro e w2 ⟨rfl, hb⟩
    have HB2 := Lib.hid (below_on HB0.out hb)
    clear hb
    go_wp2_with fail
    go_ret
    exact ⟨rfl, HB2.out⟩
  obtain ⟨l0, l1, l2, l3⟩ := lay_own (blk_keep HB1.out HQ.out)
  go_wp2_with fail
  clear l0 l1 l2 l3
  refine (KT.out _ HB1.out).mono ?_
  rintro e w2 ⟨ta, tm, tq, rfl, htm, hts, hb⟩
  have HB2 := Lib.hid hb
  have HTS := Lib.hid hts
  have HTM := Lib.hid htm
  clear hb hts htm HB1 KT
  by_cases hc0 : c = 0
  rotate_left
  · have HT : Hid (tm = 0) := Lib.hid (by rw [HTM.out]; unfold tabL; rw [HC1.out, if_neg hc0]; rfl)
    obtain rfl : 0 = tm := HT.out.symm
    clear HTS HTM HT
    go_wp2_with fail
    refine (KWO.out _ HB2.out).mono ?_
    rintro e w3 ⟨rfl, hb⟩
    have HB3 := Lib.hid (below_on HB0.out hb)
    clear hb
    go_wp2_with fail
    go_ret
    exact ⟨rfl, HB3.out⟩
  subst hc0
  have HT : Hid (tabL L = tabS L) := Lib.hid (by unfold tabL; rw [HC1.out, if_pos rfl])
  have HM : Hid (mayS L = true) := Lib.hid (cs_zero HC1.out)
  have HS : Hid (n4 ≤ 64) := Lib.hid (by have := mayS_small HM.out; have := HN4.out; omega)
  have htm : n4 = tm := by rw [HTM.out, HT.out, tabS_len, HN4.out]
  obtain rfl : n4 = tm := htm
  have hts := HTS.out
  rw [HT.out] at hts
  have HTS := Lib.hid hts
  clear hts HTM HT
  have HQ2 := Lib.hid (blk_keep HB2.out HQ.out)
  obtain ⟨l0, l1, l2, l3⟩ := lay_own HQ2.out
  go_upto_region 9 with fail
  clear l0 l1 l2 l3
  go_loopg [5] n4 (fun g i wr => ∃ k : Nat, k + g = n4 ∧ i = .int .i64 (k : Int) ∧ Below w2.heap.size w2 wr)
  case atStart => exact ⟨0, by omega, rfl, Below.refl _ _⟩
  case round =>
    obtain ⟨i, hi, rfl, hbw⟩ := hrel
    have HBo := Lib.hid hbw
    clear hbw
    by_cases hlt : i < n4
    · have d1 : (0 : Int) ≤ i := by omega
      have d2 : (i : Int) < n4 := by omega
      have e1 := wsucc hlt HS.out
      have HI := Lib.hid hi
      have HLT := Lib.hid hlt
      obtain ⟨A, hA⟩ : ∃ A, rowS L i = A := ⟨_, rfl⟩
      have HA := Lib.hid hA
      rcases HTS.out.row with hnil | ⟨tb, off, hta, hc⟩
      · have := HN4.out; have h2 := tabS_len L; simp only at hnil; rw [hnil] at h2; simp at h2; omega
      have hta2 : ta = some ⟨tb, off, none⟩ := hta
      have ta0 := hc i _ (tabS_get (by rw [HN4.out]; exact hlt)) 0 _ rfl
      rw [hA, Nat.mul_one, Nat.add_zero] at ta0
      have HTA : Hid (w2.cell? ⟨tb, off + i, none⟩ = some (.int .u64 (A : Int))) := Lib.hid ta0
      have HAL : Hid (A < 18446744073709551616) := Lib.hid (by rw [← hA]; exact rowS_lt (by have := HS.out; have := HN4.out; omega) i)
      obtain ⟨X, hX⟩ : ∃ X, ta = X := ⟨_, rfl⟩
      have HXX := Lib.hid hX
      rw [hX]
      rw [hX] at hta2
      subst hta2
      clear hc hta ta0 hA hX hlt hi
      obtain ⟨wq, rfl⟩ : ∃ wq, wq = wr := ⟨_, rfl⟩
      go_upto_region 12 with fail
      go_loopg [6, 7] n4 (fun g j _ wr => ∃ k : Nat, k + g = n4 ∧ j = .int .i64 (k : Int) ∧ Below w2.heap.size w2 wr)
      case atStart => exact ⟨0, by omega, rfl, HBo.out⟩
      case round =>
        obtain ⟨k, hk, rfl, hbw⟩ := hrel
        have HB3 := Lib.hid hbw
        have HK := Lib.hid hk
        clear hbw hk
        by_cases hlk : k < n4
        · have d3 : (0 : Int) ≤ k := by omega
          have d4 : (k : Int) < n4 := by omega
          have e2 := wsucc hlk HS.out
          have hk64 : min k 64 = k := by have := HS.out; omega
          obtain ⟨D, hD⟩ : ∃ D, pairS L i k = D := ⟨_, rfl⟩
          have hh := has_form2 A k D HAL.out (by rw [← HA.out, row_pair HM.out (by rw [HN4.out]; exact HLT.out) (by rw [HN4.out]; exact hlk), hD])
          have HD := Lib.hid hD
          have HD2 : Hid (pairS L k i = D) := Lib.hid (by rw [ps_comm]; exact hD)
          have c1 := cell_later HB3.out HTA.out
          have HQ3 := Lib.hid (blk_keep HB3.out HQ2.out)
          obtain ⟨l0, l1, l2, l3⟩ := lay_own HQ3.out
          have HLK := Lib.hid hlk
          clear hD hlk
          go_wp2_with fail
          clear hh c1 l0 l1 l2 l3
          refine (KP.out i k D HD.out _ (below_on HB2.out HB3.out)).mono ?_
          rintro e w4 ⟨rfl, hb⟩
          have HB4 := Lib.hid (below_on HB3.out hb)
          clear hb
          have HQ4 := Lib.hid (blk_keep HB4.out HQ2.out)
          obtain ⟨l0, l1, l2, l3⟩ := lay_own HQ4.out
          have hdd : (D != D) = false := by cases D <;> rfl
          go_wp2_with fail
          clear l0 l1 l2 l3
          refine (KP.out k i D HD2.out _ (below_on HB2.out HB4.out)).mono ?_
          rintro e w5 ⟨rfl, hb⟩
          have HB5 := Lib.hid (below_on HB4.out hb)
          clear hb HQ3 HQ4 HB3 HB4
          by_cases hik : i = k
          · have hD0 : D = false := by rw [← HD.out, hik]; exact ps_no (fun h => h.2.2.2.2 rfl)
            have hbe : ((i : Int) == (k : Int)) = true := by rw [hik]; simp
            have hbd : (decide ((i : Int) = (k : Int))) = true := by rw [hik]; simp
            have HIK := Lib.hid hik
            clear hik
            subst hD0
            go_wp2_with fail
            go_roundg (n4 - (k + 1))
            case rel => exact ⟨k + 1, by have := HK.out; have := HLK.out; omega, by go_num, HB5.out⟩
            case measure => have := HK.out; have := HLK.out; omega
          · have hbe : ((i : Int) == (k : Int)) = false := by rw [beq_eq_false_iff_ne]; omega
            have hbd : (decide ((i : Int) = (k : Int))) = false := decide_eq_false (by omega)
            have HIK := Lib.hid hik
            clear hik
            go_wp2_with fail
            go_roundg (n4 - (k + 1))
            case rel => exact ⟨k + 1, by have := HK.out; have := HLK.out; omega, by go_num, HB5.out⟩
            case measure => have := HK.out; have := HLK.out; omega
        · have hnk : ¬ k < n4 := hlk
          have hkn : n4 = k := by have := HK.out; omega
          have HKN := Lib.hid hkn
          clear hkn
          have c1 := cell_later HB3.out HTA.out
          by_cases h64 : n4 < 64
          · have hn64 : (n4 : Int) < 64 := by omega
            have hmn : min n4 64 = n4 := by omega
            have h0 : (0 : Int) ≤ n4 := by omega
            have hhi : (A : Int) / 2 ^ n4 = 0 := by rw [← HA.out, ← HN4.out]; exact row_high i
            go_wp2_with fail
            rw [← HXX.out]
            go_roundg (n4 - (i + 1))
            case rel => exact ⟨i + 1, by have := HI.out; have := HLT.out; omega, by go_num, HB3.out⟩
            case measure => have := HI.out; have := HLT.out; omega
          · have hn64 : ¬ (n4 : Int) < 64 := by omega
            go_wp2_with fail
            rw [← HXX.out]
            go_roundg (n4 - (i + 1))
            case rel => exact ⟨i + 1, by have := HI.out; have := HLT.out; omega, by go_num, HB3.out⟩
            case measure => have := HI.out; have := HLT.out; omega
    · have hni : ¬ i < n4 := hlt
      have hin : n4 = i := by omega
      have HIN := Lib.hid hin
      clear hin
      go_wp2_with fail
      refine (KWO.out _ (below_on HB2.out HBo.out)).mono ?_
      rintro e w6 ⟨rfl, hb⟩
      have HB6 := Lib.hid (below_on HB0.out hb)
      clear hb
      go_wp2_with fail
      go_ret
      exact ⟨rfl, HB6.out⟩
theorem walk_ConflictBoth (v0 : Array Value)  (w : World) (_s0 : v0.size = Try.prog.cellsOf 27) (w0 : Rd Try.prog w 27 v0.toList)  :
    Calls Try.prog 4 #[.agg v0] w fun e w' => e = .returned (.bool true) ∧ Below w.heap.size w w' := by
  obtain ⟨L, hv, hL⟩ := lay_of w0
  obtain rfl : v0 = #[L.se.v, L.po.v, L.sg.v, L.rt.v] := by apply Array.toList_inj.1; rw [hv]
  exact conflictBoth_is L w hL
end Go.Proofs.Ythlnnlemnbpndaa
