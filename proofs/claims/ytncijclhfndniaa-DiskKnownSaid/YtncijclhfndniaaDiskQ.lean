/-
  Chapter 14: the document's block, New.
-/
import Derived.Test.YtncijclhfndniaaDiskP
namespace Go.Proofs.Ytncijclhfndniaa
open Go.RowKit
attribute [local irreducible] byteVals okB zeros pad strOf
theorem strCells_strOf {b : List Nat} (h : ∀ x ∈ b, x < 256) : Lib.strCells (strOf b) = byteVals b := by
  unfold Lib.strCells byteVals
  rw [strOf_data, List.map_map]
  apply List.map_congr_left
  intro x hx
  have := h x hx
  show Value.int .u8 ((UInt8.ofNat x).toNat : Int) = _
  rw [UInt8.toNat_ofNat']
  exact int_eq (by omega)
def padTo (b : List Nat) (k : Nat) : List Nat := b ++ List.replicate (k - b.length) 0
theorem padTo_start (b : List Nat) : padTo b b.length = b := by unfold padTo; simp
theorem padTo_all (b : List Nat) : padTo b 256 = pad b := by unfold padTo pad; rfl
theorem padTo_len {b : List Nat} {k : Nat} (h : b.length ≤ k) : (padTo b k).length = k := by unfold padTo; simp; omega
theorem padTo_succ {b : List Nat} {k : Nat} (h : b.length ≤ k) : padTo b (k + 1) = padTo b k ++ [0] := by
  unfold padTo
  rw [show k + 1 - b.length = (k - b.length) + 1 by omega, List.replicate_succ', List.append_assoc]
theorem padTo_vals {b : List Nat} {k : Nat} (h : b.length ≤ k) : byteVals (padTo b k) ++ [.int .u8 0] = byteVals (padTo b (k + 1)) := by
  rw [padTo_succ h, byteVals_append]
  unfold byteVals; rfl
theorem padTo_ok {b : List Nat} {k : Nat} (h : ∀ x ∈ b, x < 256) : ∀ x ∈ padTo b k, x < 256 := by
  intro x hx
  unfold padTo at hx
  rcases List.mem_append.1 hx with hx | hx
  · exact h x hx
  · rw [List.eq_of_mem_replicate hx]; decide
attribute [local irreducible] padTo
def vLen : Value → Nat
  | .slice _ n _ => n
  | _ => 0
set_option maxHeartbeats 2000000 in
theorem rblock_any (b : List Nat) (sb : ByteArray) (w : World) (hs : sb = strOf b) (hb : ∀ x ∈ b, x < 256) (hl : b.length ≤ 256) : Calls Try.prog 30 #[.string sb] w fun e w' => e = .returned (.string (strOf (pad b))) ∧ Below w.heap.size w w' := by
  subst hs
  have HB := Lib.hid hb
  obtain ⟨i0, hi, hz0, hz1, hz2⟩ := info_parts info_byte
  have hsz : (strOf b).size = b.length := strOf_size b
  obtain ⟨m, hm⟩ : ∃ m, m = b.length := ⟨_, rfl⟩
  have HSZ : Hid ((strOf b).size = m) := Lib.hid (by rw [hm]; exact hsz)
  have HM := Lib.hid hm
  have HC : Hid (Lib.strCells (strOf b) = byteVals b) := Lib.hid (strCells_strOf hb)
  have hm256 : m ≤ 256 := by omega
  clear hb hsz hm hl
  go_enter Try.func30, Try.ntmps30
  go_wp2_with (at_builtin; refine Lib.wpList_append_own_string _ rfl _ _ 29 9 rfl w.heap.size 5 i0 Try.underlying29 Try.underlying9 hi hz0 hz1 hz2 (.slice none 0 0) 0 [] rfl (World.ownsRow_nil _ _ _ _) (strOf b) rfl (by rw [HSZ.out]; unfold maxLen; omega) (by rw [HSZ.out]; omega) (Nat.le_refl _) ?_; intro v1 w1 hown hgr hnil; obtain ⟨H1, H2⟩ : Hid (w1.ownsRow w.heap.size 5 1 v1 (0 + (strOf b).size) ([] ++ Lib.strCells (strOf b))) ∧ Hid (w.grownBy w1 none) := ⟨Lib.hid hown, Lib.hid hgr⟩; clear hown hgr hnil)
  have hown := H1.out
  rw [HSZ.out, HC.out, Nat.zero_add, List.nil_append] at hown
  have hB : Below w.heap.size w w1 := ⟨H2.out.os, H2.out.tape, H2.out.output, H2.out.size, fun i hi => H2.out.block i hi (by intro e; cases e)⟩
  have HO : Hid (w1.ownsRow w.heap.size 5 1 v1 m (byteVals (padTo b m))) := Lib.hid (by rw [HM.out, padTo_start, ← HM.out]; exact hown)
  have HBL := Lib.hid hB
  clear hown hB H1 H2 HC
  go_loopw [3] (fun v wr => ∃ k : Nat, m ≤ k ∧ k ≤ 256 ∧ wr.ownsRow w.heap.size 5 1 v k (byteVals (padTo b k)) ∧ Below w.heap.size w wr) (fun v _ => 256 - vLen v)
  case atStart => exact ⟨m, Nat.le_refl _, hm256, HO.out, HBL.out⟩
  case round =>
    obtain ⟨k, hk1, hk2, hown, hB⟩ := hrel
    clear HO HBL
    obtain ⟨a, c, rfl⟩ := own_slice hown
    by_cases hlt : k < 256
    · have d1 : (k : Int) < 256 := by omega
      have hsz := hB.size
      have HO := Lib.hid hown
      have HBL := Lib.hid hB
      clear hB
      go_wp2_with (at_builtin; refine wpList_append_own _ rfl _ _ 29 rfl w.heap.size 5 i0 (.int .u8 0) 1 1 Try.underlying29 hi hz0 hz1 hz2 rfl (by decide) _ _ _ rfl (hown.alloc _) ⟨wr.heap.size, 0, none⟩ 1 1 [.int .u8 0] rfl rfl (cell_one_new _ _ _) (by intro u hu; simp at hu; rw [hu]; rfl) (by unfold maxLen; omega) (by omega) (by simp; omega) ?_; intro v1 w1 hown1 hgr _; obtain ⟨H1, H2⟩ : Hid (w1.ownsRow w.heap.size 5 1 v1 (k + 1) (byteVals (padTo b k) ++ [.int .u8 0])) ∧ Hid ((wr.alloc (.cells #[.int .u8 0] 5)).grownBy w1 (Value.ownBlock (.slice a k c))) := ⟨Lib.hid hown1, Lib.hid hgr⟩; clear hown1 hgr)
      obtain ⟨a1, c1, rfl⟩ := own_slice H1.out
      clear hown
      go_roundw
      case rel =>
        have h1 := H1.out
        rw [padTo_vals (by rw [← HM.out]; exact hk1)] at h1
        exact ⟨k + 1, by omega, by omega, h1, (below_on HBL.out (below1 wr _)).grown H2.out (by simp; omega) (fun q e => (own_at HO.out e).1)⟩
      case measure => simp [vLen]; omega
    · obtain rfl : k = 256 := by omega
      have hmine := own_mine (padTo_ok (k := 256) HB.out) (padTo_len (by rw [← HM.out]; exact hk1)) (by omega) hown
      obtain ⟨g, c', e, hg, hmn⟩ := hmine
      cases e
      rw [padTo_all] at hmn
      have hcv := run_str wr (some ⟨g, 0, none⟩) (pad b) 256 c (by have := padTo_len (b := b) (k := 256) (by rw [← HM.out]; exact hk1); rw [padTo_all] at this; exact this) hmn.bytes
      clear hown hmn
      go_wp2_with fail
      go_ret
      exact ⟨rfl, hB⟩
end Go.Proofs.Ytncijclhfndniaa
