/-
  Layer 06: the document's Of.
-/
import Derived.Test.YthlnnlemnbpndaaCoO
import Derived.Test.YthlnnlemnbpndaaCoKr
namespace Go.Proofs.Ythlnnlemnbpndaa
open Go.RowKit
set_option maxRecDepth 100000
attribute [local irreducible] hasI hasP dupI dupN okPt okPts secOf formedS Sl.v cntI ixF mayS conflictS pairS checkS growS rowS rrowS tabS cfS withBit pw cofN

set_option maxHeartbeats 8000000 in
theorem rof_is (L : Lay) (n : Int) (w : World) (hL : LayAt w L) :
    Calls Try.prog 22 #[.agg #[L.se.v, L.po.v, L.sg.v, L.rt.v], .int .i64 n] w fun e w' => ∃ a m c, e = .returned (.slice a m c) ∧ m = (cofL L n).length ∧ SlAt 1 intC w' ⟨a, c, cofL L n⟩ ∧ Below w.heap.size w w' := by
  have HPR : Hid (∀ (b : Int) (z : Bool), pairS L n b = z → ∀ W, Below w.heap.size w W → Calls Try.prog 32 #[.agg #[L.se.v, L.po.v, L.sg.v, L.rt.v], .int .i64 n, .int .i64 b] W fun e w' => e = .returned (.bool z) ∧ Below W.heap.size W w') := Lib.hid (fun b z hz W hW => rpair_is L n b z hz W (hL.below hW))
  have hm4 := hL.rt.lenM
  obtain ⟨n1, hn1⟩ : ∃ n, L.se.l.length = n := ⟨_, rfl⟩
  obtain ⟨n2, hn2⟩ : ∃ n, L.po.l.length = n := ⟨_, rfl⟩
  obtain ⟨n3, hn3⟩ : ∃ n, L.sg.l.length = n := ⟨_, rfl⟩
  obtain ⟨n4, hn4⟩ : ∃ n, L.rt.l.length = n := ⟨_, rfl⟩
  have HN4 := Lib.hid hn4
  rw [hn4] at hm4
  have HM4 := Lib.hid hm4
  rw [slv hn1, slv hn2, slv hn3, slv hn4] at HPR ⊢
  clear hn1 hn2 hn3 hn4 hL hm4
  obtain ⟨gl, hgl⟩ : ∃ g, g = w.heap.size := ⟨_, rfl⟩
  have HGL := Lib.hid hgl
  clear hgl
  obtain ⟨T, hT⟩ : ∃ T, min n4 64 = T := ⟨_, rfl⟩
  have HT := Lib.hid hT
  clear hT
  go_enter Try.func22, Try.ntmps22
  go_upto_region 3 with fail
  rw [← HGL.out]
  have hB0 := below1 w (.cells #[.slice L.se.a n1 L.se.c, .slice L.po.a n2 L.po.c, .slice L.sg.a n3 L.sg.c, .slice L.rt.a n4 L.rt.c] 27)
  have hQ0 := alloc1 w (.cells #[.slice L.se.a n1 L.se.c, .slice L.po.a n2 L.po.c, .slice L.sg.a n3 L.sg.c, .slice L.rt.a n4 L.rt.c] 27) (Below.refl _ _)
  rw [← HGL.out] at hQ0
  have HB1 := Lib.hid hB0
  have HQ1 := Lib.hid hQ0
  clear hB0 hQ0
  go_loopg [5, 6] T (fun g v i wr => ∃ k : Nat, k + g = T ∧ i = .int .i64 (k : Int) ∧ wr.ownsRow (gl + 1) 3 1 v (cofN L n k).length ((cofN L n k).flatMap intC) ∧ wr.heap[gl]? = some (.cells #[.slice L.se.a n1 L.se.c, .slice L.po.a n2 L.po.c, .slice L.sg.a n3 L.sg.c, .slice L.rt.a n4 L.rt.c] 27) ∧ Below w.heap.size w wr)
  case atStart => exact ⟨0, by omega, rfl, by unfold cofN; exact World.ownsRow_nil _ _ _ _, HQ1.out, HB1.out⟩
  case round =>
    obtain ⟨k, hk, rfl, ht, hq, hbw⟩ := hrel
    clear HQ1 HB1
    have HO := Lib.hid ht
    have HQ := Lib.hid hq
    have HB1 := Lib.hid hbw
    have HK := Lib.hid hk
    have l0 := blk_cell hq 0 _ rfl
    have l1 := blk_cell hq 1 _ rfl
    have l2 := blk_cell hq 2 _ rfl
    have l3 := blk_cell hq 3 _ rfl
    clear ht hq hbw hk
    by_cases hlt : k < T
    · have d3 : (0 : Int) ≤ k := by omega
      have d4 : (k : Int) < n4 := by have := HT.out; omega
      have d5 : (k : Int) < 64 := by have := HT.out; omega
      have e1 := wsucc (n := 64) (k := k) (by have := HT.out; omega) (Nat.le_refl _)
      have HLT := Lib.hid hlt
      have HS : Hid (T ≤ 64) := Lib.hid (by have := HT.out; omega)
      obtain ⟨D, hD⟩ : ∃ D, pairS L n (k : Int) = D := ⟨_, rfl⟩
      have HPS := Lib.hid hD
      clear hlt hD
      go_wp2_with fail
      refine (HPR.out _ D HPS.out _ HB1.out).mono ?_
      rintro e w7 ⟨rfl, hw7⟩
      have HQ7 := Lib.hid (blk_keep hw7 HQ.out)
      have HO7 := Lib.hid (own_below hw7 HO.out)
      have HB7 := Lib.hid (below_on HB1.out hw7)
      clear hw7 l0 l1 l2 l3 HQ HO HB1
      cases D with
      | false =>
        go_wp2_with fail
        go_roundg (T - (k + 1))
        case rel => exact ⟨k + 1, by have := HK.out; have := HLT.out; omega, by go_num, by rw [cofN_no HPS.out]; exact HO7.out, HQ7.out, HB7.out⟩
        case measure => have := HK.out; have := HLT.out; omega
      | true =>
        obtain ⟨XS, hXS⟩ : ∃ X, (cofN L n k).flatMap intC = X := ⟨_, rfl⟩
        obtain ⟨q, hq9⟩ : ∃ q, (cofN L n k).length = q := ⟨_, rfl⟩
        have hle := cofN_len L n k
        have HTT := Lib.hid (cofN_flat HPS.out)
        rw [hXS, hq9] at HTT
        rw [hXS, hq9] at HO7
        rw [hq9] at hle
        obtain ⟨i0, hi, hz0, hz1, hz2⟩ := info_parts info_int
        have HOW := Lib.hid (own_below (below1 w7 (.cells #[.int .i64 (k : Int)] 3)) HO7.out)
        have HBW := Lib.hid (below_on HB7.out (below1 w7 (.cells #[.int .i64 (k : Int)] 3)))
        have HQW := Lib.hid (blk_keep (below1 w7 (.cells #[.int .i64 (k : Int)] 3)) HQ7.out)
        have hsz := blk_lt HQW.out
        have hq1000 : q < 1000 := by have := HS.out; have := HLT.out; omega
        clear hXS hq9 hle
        go_wp2_with (at_builtin; refine wpList_append_src rfl _ _ 41 rfl (gl + 1) 3 i0 (.int .i64 0) 1 8 Try.underlying41 hi hz0 hz1 hz2 rfl (by decide) _ q XS rfl HOW.out (some ⟨w7.heap.size, 0, none⟩) 1 1 [.int .i64 (k : Int)] rfl rfl (src_one rfl (alloc1 w7 _ (Below.refl _ _))) (by unfold maxLen; omega) (by omega) hsz ?_; intro v4 W4 hown4 hg4)
        have hB4 : Below w.heap.size w W4 := HBW.out.grown hg4 HBW.out.size (fun k hk => by have := (HOW.out.lt _ hk).1; have := HGL.out; omega)
        have hQ4 := grown_keep hg4 HQW.out (fun hk => by have := (HOW.out.lt _ hk).1; omega)
        rw [← HTT.out.1, ← HTT.out.2] at hown4
        have HO4 := Lib.hid hown4
        have HB4 := Lib.hid hB4
        have HQ4 := Lib.hid hQ4
        clear hown4 hB4 hQ4 hg4 HOW HBW HQW hsz hq1000
        go_wp2_with fail
        go_roundg (T - (k + 1))
        case rel => exact ⟨k + 1, by have := HK.out; have := HLT.out; omega, by go_num, HO4.out, HQ4.out, HB4.out⟩
        case measure => have := HK.out; have := HLT.out; omega
    · have hnk : T = k := by have := HK.out; omega
      subst hnk
      obtain ⟨sa, sc, hv, hs⟩ := own_sl (l := cofN L n T) int_len rfl HO.out
      have HTT : Hid (cofL L n = cofN L n T) := Lib.hid (by unfold cofL; rw [HN4.out, HT.out])
      subst hv
      have HS := Lib.hid hs
      clear hs hlt
      by_cases h4 : T < n4
      · have d4 : (T : Int) < n4 := by omega
        have d5 : ¬ (T : Int) < 64 := by have := HT.out; omega
        go_wp2_with fail
        go_ret
        exact ⟨sa, _, sc, rfl, by rw [HTT.out], by rw [HTT.out]; exact HS.out, HB1.out⟩
      · have d4 : ¬ (T : Int) < n4 := by omega
        go_wp2_with fail
        go_ret
        exact ⟨sa, _, sc, rfl, by rw [HTT.out], by rw [HTT.out]; exact HS.out, HB1.out⟩
end Go.Proofs.Ythlnnlemnbpndaa
