/-
  The walk of the statement CrcRow of chapter 1.
-/
import Derived.Test.YtegkogbkoealaaaCrcLawsC
import Derived.Deep.QuietTactic
import Derived.BigQuiet
namespace Go.Proofs.Ytegkogbkoealaaa
open Go.RowKit
attribute [local irreducible] Crc.it Crc.ah8 Crc.bk8 Crc.run Crc.sum Crc.step Crc.ah Crc.bk Crc.pick Crc.tab Crc.psum Crc.found noughts strOf bytesRow

theorem change_at (s a b : Nat) (x : Int) (m : Nat) (w : World) (v : Nat) (hv : s ^^^ Crc.it Crc.ah8 (m + 1) (a ^^^ b) = v) (hx : x = m) (hs : s < 4294967296) (ha : a < 256) (hb : b < 256) (hm : m ≤ 65536) :
    Calls Try.prog 14 #[.int .u32 s, .int .u8 a, .int .u8 b, .int .i64 x] w fun e w' => e = .returned (.tuple #[.int .u32 v, .bool true]) ∧ w' = w := by
  subst hx; subst hv
  exact (change_any s a b m w hs ha hb hm).mono fun e w' ⟨h1, h2⟩ => ⟨h1, h2.symm⟩
theorem sum_set' (l : List Nat) (k a v n m : Nat) (hn : l.length = n) (hk : k < n) (ha : l[k]? = some a) (hm : m = n - 1 - k) : Crc.sum l ^^^ Crc.it Crc.ah8 (m + 1) (a ^^^ v) = Crc.sum (l.set k v) := by
  subst hn; subst hm
  have := Crc.sum_set l k v hk
  rw [List.getElem?_eq_getElem hk] at ha
  rw [← Option.some.inj ha, this]

theorem k_u16 (n : Int) (h : (Lit.int .u16 n).wf = true) : 0 ≤ n ∧ n < ((65536 : Nat) : Int) := by have := bounds_u16 h; omega

set_option maxRecDepth 100000 in
set_option maxHeartbeats 1000000 in
theorem walk_CrcRow (a0 : Option Addr) (len0 cap0 : Nat) (z0 : List Int) (a1 : Option Addr) (len1 cap1 : Nat) (z1 : List Int) (a2 : Option Addr) (len2 cap2 : Nat) (z2 : List Int) (w : World) (w0 : IsRow .u8 w a0 len0 cap0 z0) (w1 : IsRow .u16 w a1 len1 cap1 z1) (w2 : IsRow .u8 w a2 len2 cap2 z2) :
    Calls Try.prog 6 #[.slice a0 len0 cap0, .slice a1 len1 cap1, .slice a2 len2 cap2] w fun e w' => e = .returned (.bool true) ∧ Below w.heap.size w w' := by
  obtain ⟨l, hl, hlm, hby⟩ := w0.bytes
  obtain ⟨q, hq, hqm, hqt⟩ := w1.nats k_u16
  obtain ⟨t, ht, htm, htt⟩ := w2.bytes
  clear w0 w1 w2
  have hlm2 : (len0 : Int) ≤ 9223372036854775807 := by unfold maxLen at hlm; omega
  have hqm2 : (len1 : Int) ≤ 9223372036854775807 := by unfold maxLen at hqm; omega
  have htm2 : (len2 : Int) ≤ 9223372036854775807 := by unfold maxLen at htm; omega
  by_cases h1 : 1500 < len0
  · go_enter Try.func6, Try.ntmps6
    go_wp2_with (go_at_call 11; refine (works_any _).mono ?_; rintro e w' ⟨rfl, hb⟩)
    go_ret
    exact ⟨rfl, by assumption⟩
  by_cases h2 : 40 < len1
  · go_enter Try.func6, Try.ntmps6
    go_wp2_with (go_at_call 11; refine (works_any _).mono ?_; rintro e w' ⟨rfl, hb⟩)
    go_ret
    exact ⟨rfl, by assumption⟩
  have HL := Lib.hid hl
  clear hl
  have hs0 := run_str w a0 l len0 cap0 HL.out hby
  have kb := run_byt w
  have hsz : (strOf l).size = len0 := by rw [strOf_size, HL.out]
  go_enter Try.func6, Try.ntmps6
  go_wp2_with fail
  refine (sum_is l _ rfl HL.out hlm (bytes_at_row l hby.1 (heap_new_drew _ _))).mono ?_
  rintro e w1 ⟨rfl, hb1⟩
  have hA := (mine_row l hby.1 (Nat.le_refl _) (heap_new_drew _ _)).below hb1
  have hb1 := below_on (below1_drew _ _) hb1
  clear kb hs0 hsz
  go_wp2_with fail
  generalize grownCap w len0 0 5 = rcap
  go_loopw [8, 9] (fun s i wr => ∃ (k : Nat) (cur : List Nat), k ≤ len1 ∧ i = .int .i64 k ∧ s = .int .u32 (Crc.sum cur : Nat) ∧ cur.length = len0 ∧ Mine wr w.heap.size cur ∧ Below w.heap.size w wr) (fun _ i _ => len1 - (intOf i).toNat)
  case atStart => exact ⟨0, l, by omega, rfl, rfl, HL.out, hA, hb1⟩
  case round =>
    obtain ⟨k, cur, hk, rfl, rfl, hcur, hM, hbr⟩ := hrel
    clear hA hb1
    have HC := Lib.hid hcur
    clear hcur
    have hend : ∀ wx, Below w.heap.size w wx → True := fun _ _ => trivial
    clear hend
    by_cases h3 : k < len1
    · by_cases h4 : k < len2
      · by_cases h5 : 0 < len0
        · obtain ⟨bq, oq, x, rfl, hqx, hxl, hcq⟩ := (hqt.below hbr).at (i := k) (by rw [hq]; omega)
          obtain ⟨bt, ot, c, rfl, htx, hcl, hct⟩ := (htt.nats.below hbr).at (i := k) (by rw [ht]; omega)
          obtain ⟨p, hp, hp1⟩ : ∃ p : Nat, ((x : Int) % (len0 : Int)) = p ∧ p < len0 := ⟨x % len0, by omega, Nat.mod_lt _ h5⟩
          obtain ⟨m, hm⟩ : ∃ m : Nat, m = len0 - 1 - p := ⟨_, rfl⟩
          have HM := Lib.hid hm
          have hm1 : m ≤ 65536 := by omega
          have HM2 : Hid ((len0 : Int) - 1 - p = m) := Lib.hid (by omega)
          clear hm
          have hcp := hM.2.1 p (by rw [HC.out]; exact hp1)
          have hfp := hM.2.2 p (by rw [HC.out]; exact hp1)
          have hvv : ∃ v, cur[p]? = some v ∧ v < 256 := ⟨_, List.getElem?_eq_getElem (by rw [HC.out]; exact hp1), hM.1 _ (List.getElem_mem _)⟩
          obtain ⟨v, hv, hvl⟩ := hvv
          have hgv : cur.getD p 0 = v := by rw [List.getD_eq_getElem?_getD, hv]; rfl
          rw [hgv] at hcp
          have HS := Lib.hid (sum_set' cur p v c len0 m HC.out hp1 hv HM.out)
          have hsl := Crc.sum_lt cur hM.1
          have e1 : IntKind.i64.wrap ((len0 : Int) - 1) = (len0 : Int) - 1 := IntWalk.i64_in _ (by omega)
          have e2 : IntKind.i64.wrap ((len0 : Int) - 1 - (p : Int)) = (len0 : Int) - 1 - (p : Int) := IntWalk.i64_in _ (by omega)
          have b1 : (0 : Int) ≤ p := by omega
          have b2 : (p : Int) < len0 := by omega
          have b3 : (k : Int) < len2 := by omega
          clear hv hgv htx hqx
          go_wp2_with fail
          go_quiet ((go_at_call 14; exact Calls.quiet_of_same (change_at _ v c _ m _ _ HS.out HM2.out hsl hvl hcl hm1)))
          go_wp2_with fail
          have hM2 := Mine.store (w := wr.drewN nq) hM (k := p) (v := c) (by rw [HC.out]; exact hp1) hcl
          have HC2 : Hid ((cur.set p c).length = len0) := Lib.hid (by rw [List.length_set, HC.out])
          refine (sum_is (cur.set p c) _ rfl HC2.out hlm hM2.bytes).mono ?_
          rintro e w3 ⟨rfl, hb3⟩
          have hM3 := hM2.below hb3
          have hb4 : Below w.heap.size w w3 := below_next ((below_drewN hbr nq).setCell (p := ⟨w.heap.size, p, none⟩) (Nat.le_refl _) (.int .u8 c)) (by have := hbr.size; rw [World.size_setCell]; exact this) hb3
          clear hM2 hM HS HM HM2
          go_wp2_with fail
          go_roundw
          case rel => exact ⟨k + 1, cur.set p c, by omega, by go_num, rfl, HC2.out, hM3, hb4⟩
          case measure => simp [intOf]; omega
        · go_wp2_with (go_at_call 11; refine (works_any _).mono ?_; rintro e w' ⟨rfl, hb⟩)
          go_ret
          exact ⟨rfl, below_on hbr (by assumption)⟩
      · go_wp2_with (go_at_call 11; refine (works_any _).mono ?_; rintro e w' ⟨rfl, hb⟩)
        go_ret
        exact ⟨rfl, below_on hbr (by assumption)⟩
    · go_wp2_with (go_at_call 11; refine (works_any _).mono ?_; rintro e w' ⟨rfl, hb⟩)
      go_ret
      exact ⟨rfl, below_on hbr (by assumption)⟩
end Go.Proofs.Ytegkogbkoealaaa
