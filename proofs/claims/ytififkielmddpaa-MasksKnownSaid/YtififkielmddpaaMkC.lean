/-
  Layer 08: the document's side.
-/
import Derived.Test.YtififkielmddpaaMkB
namespace Go.Proofs.Ytififkielmddpaa
open Go.RowKit
set_option maxRecDepth 100000
attribute [local irreducible] Sl.v hasBit mayS Rt.tr Rt.nd checkS pw withBit withI ofN oneI sideL sideS firstS aheadS secOf rowS tabS tabL mkR mkF mksS liesS mksL liesL allL ptsL trsL formedS badS conflictS

set_option maxHeartbeats 4000000 in
theorem side_is (z : Nat) (l : List (Int × Bool)) (b : Bool) (xa : Option Addr) (m c : Nat) (hz : sideS l b = z) (hs : ∀ x ∈ l, 0 ≤ x.1 ∧ x.1 ≤ 31) (w : World) (hl : RowAt 2 ndC w xa l) (hlen : l.length = m) (hm : m ≤ 100000) :
    Calls Try.prog 31 #[.slice xa m c, .bool b] w fun e w' => e = .returned (.int .u32 (z : Int)) ∧ Below w.heap.size w w' := by
  have HROW := Lib.hid hl
  have HLEN := Lib.hid hlen
  have HM := Lib.hid hm
  have HZ : Hid (ofN (sideL l b) = z) := Lib.hid (by rw [← hz]; unfold sideS; rfl)
  have HW32 : Hid (IntKind.u32.wrap (z : Int) = (z : Int)) := Lib.hid (by have := side_lt (b := b) hs; rw [hz] at this; rw [IntKind.wrap_u32]; omega)
  clear hl hlen hm hz hs
  go_enter Try.func31, Try.ntmps31
  go_upto_region 3 with fail
  go_loopg [5, 6] m (fun g v i wr => ∃ k : Nat, k + g = m ∧ i = .int .i64 (k : Int) ∧ wr.ownsRow w.heap.size 3 1 v (sideL (l.take k) b).length ((sideL (l.take k) b).flatMap intC) ∧ Below w.heap.size w wr)
  case atStart => exact ⟨0, by omega, rfl, by rw [sideL_zero]; exact World.ownsRow_nil _ _ _ _, Below.refl _ _⟩
  case round =>
    obtain ⟨k, hk, rfl, ho, hbw⟩ := hrel
    have HK := Lib.hid hk
    have HO := Lib.hid ho
    have HB := Lib.hid hbw
    clear hk ho hbw
    by_cases hlt : k < m
    · have d1 : (0 : Int) ≤ k := by omega
      have d2 : (k : Int) < m := by omega
      have e1 := k_succ hlt (Nat.le_trans HM.out (by decide))
      have HLT := Lib.hid hlt
      obtain ⟨x, hx⟩ : ∃ x, l[k]? = some x := ⟨_, List.getElem?_eq_getElem (by rw [HLEN.out]; exact hlt)⟩
      obtain ⟨p, s⟩ := x
      obtain ⟨X, hX⟩ : ∃ x, xa = x := ⟨_, rfl⟩
      have HXX := Lib.hid hX
      have hrow := HROW.out
      rw [hX] at hrow ⊢
      rcases hrow with hnil | ⟨xb, off, hxb, hc0⟩
      · rw [hnil] at hx; cases hx
      subst hxb
      have p0 := cell_later HB.out (hc0 k _ hx 0 _ rfl)
      have p1 := cell_later HB.out (hc0 k _ hx 1 _ rfl)
      rw [Nat.add_zero] at p0
      have HX := Lib.hid hx
      clear hc0 hx hlt hX
      by_cases hsb : s = b
      · subst hsb
        have fb : (s == s) = true := by simp
        obtain ⟨XS, hXS⟩ : ∃ X, (sideL (l.take k) s).flatMap intC = X := ⟨_, rfl⟩
        obtain ⟨q, hq9⟩ : ∃ q, (sideL (l.take k) s).length = q := ⟨_, rfl⟩
        have hle := sideL_len l s k
        rw [hq9] at hle
        have hq1 : q < 100000 := by have := HLT.out; have := HM.out; omega
        obtain ⟨i0, hi, hz0, hz1, hz2⟩ := info_parts info_int
        have HXS := Lib.hid hXS
        have HQ9 := Lib.hid hq9
        have HOW := Lib.hid (own_below (below1 wr (.cells #[.int .i64 p] 3)) HO.out)
        rw [hXS, hq9] at HOW
        have HBW := Lib.hid (below_on HB.out (below1 wr (.cells #[.int .i64 p] 3)))
        have hsz := HBW.out.size
        clear hXS hq9 hle
        go_wp2_with (at_builtin; refine wpList_append_src rfl _ _ 58 rfl w.heap.size 3 i0 (.int .i64 0) 1 8 Try.underlying58 hi hz0 hz1 hz2 rfl (by decide) _ q XS rfl HOW.out (some ⟨wr.heap.size, 0, none⟩) 1 1 [.int .i64 p] rfl rfl (src_one rfl (alloc1 wr _ (Below.refl _ _))) (by unfold maxLen; omega) (by omega) hsz ?_; intro v4 W4 hown4 hg4)
        have HB4 := Lib.hid (HBW.out.grown hg4 HBW.out.size (fun k hk => (HOW.out.lt _ hk).1))
        rw [← HXS.out, ← HQ9.out] at hown4
        have HO4 := Lib.hid (k_snoc (x := p) rfl hown4)
        clear hown4 hg4 HOW HBW hsz hq1 p0 p1
        go_wp2_with fail
        rw [← HXX.out]
        go_roundg (m - (k + 1))
        case rel => exact ⟨k + 1, k_next HK.out HLT.out, by go_num, by rw [sideL_yes HX.out]; exact HO4.out, HB4.out⟩
        case measure => exact k_less HK.out HLT.out
      · have fb : (s == b) = false := by simpa using hsb
        have HSB := Lib.hid hsb
        clear hsb
        go_wp2_with fail
        rw [← HXX.out]
        go_roundg (m - (k + 1))
        case rel => exact ⟨k + 1, k_next HK.out HLT.out, by go_num, by rw [sideL_no HX.out HSB.out]; exact HO.out, HB.out⟩
        case measure => exact k_less HK.out HLT.out
    · have d2 : ¬ ((k : Int) < m) := by omega
      have hkm : k = m := by have := HK.out; omega
      have ho := HO.out
      rw [hkm, show l.take m = l by rw [← HLEN.out]; exact List.take_length] at ho
      obtain ⟨sa, sc, hv, hs⟩ := own_sl (l := sideL l b) int_len rfl ho
      subst hv
      obtain ⟨nn, hnn⟩ : ∃ n, (sideL l b).length = n := ⟨_, rfl⟩
      have hnm : nn ≤ maxLen := by
        have := sideL_len l b m
        rw [show l.take m = l by rw [← HLEN.out]; exact List.take_length, hnn] at this
        have := HM.out
        unfold maxLen; omega
      have HOF := Lib.hid (rof_any sa nn sc (sideL l b) wr hnn hnm hs.row)
      rw [hnn]
      have hw32 := HW32.out
      clear ho hkm hlt hs hnm hnn
      go_wp2_with fail
      refine HOF.out.mono ?_
      rintro e w' ⟨rfl, rfl⟩
      rw [HZ.out]
      go_wp2_with fail
      go_ret
      exact ⟨rfl, HB.out⟩
end Go.Proofs.Ytififkielmddpaa
