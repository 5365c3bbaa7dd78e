/-
  Walks: the document's in and needs of layer 06.
-/
import Derived.Test.YtjienmjpfklgeaaCoA
import Derived.Deep.LoopGhost
namespace Go.Proofs.Ytjienmjpfklgeaa
open Go.RowKit
theorem hasI_no {l : List Int} {s y : Int} {k : Nat} (h : l[k]? = some y) (hs : hasI (l.take k) s = false) (hy : y ≠ s) : hasI (l.take (k + 1)) s = false := by
  unfold hasI at hs ⊢
  rw [List.take_add_one, h, List.any_append, hs]
  simp [hy]
theorem hasI_yes {l : List Int} {s y : Int} {k : Nat} (h : l[k]? = some y) (hy : y = s) : hasI l s = true := by
  unfold hasI
  rw [List.any_eq_true]
  exact ⟨y, List.mem_of_getElem? h, decide_eq_true hy⟩
theorem ndAt_drop {l : List (Int × Bool)} {y : Int × Bool} {k : Nat} {p : Int} (h : l[k]? = some y) : ndAt (l.drop k) p = if y.1 = p then some y.2 else ndAt (l.drop (k + 1)) p := by
  have hk : k < l.length := (List.getElem?_eq_some_iff.1 h).1
  rw [List.drop_eq_getElem_cons hk, (List.getElem?_eq_some_iff.1 h).2]
  rfl
theorem ndAt_end {l : List (Int × Bool)} {k : Nat} {p : Int} (h : l.length = k) : ndAt (l.drop k) p = none := by rw [List.drop_eq_nil_of_le (by omega)]; rfl
attribute [local irreducible] hasI ndAt
set_option maxHeartbeats 1000000 in
theorem r6in_is (b : Bool) (x : Option Addr) (m c : Nat) (l : List Int) (s : Int) (w : World) (hB : hasI l s = b) (hn : l.length = m) (hm : m ≤ 9223372036854775807) (hl : RowAt 1 intC w x l) :
    Calls Try.prog 82 #[.slice x m c, .int .i64 s] w fun e w' => e = .returned (.bool b) ∧ w = w' := by
  have HN := Lib.hid hn
  have HBB := Lib.hid hB
  clear hn hB
  go_enter Try.func82, Try.ntmps82
  go_wp2_with fail
  go_loopg [5] m (fun g i wr => ∃ k : Nat, k + g = m ∧ i = .int .i64 (k : Int) ∧ hasI (l.take k) s = false ∧ w = wr)
  case atStart => exact ⟨0, by omega, rfl, by unfold hasI; rfl, rfl⟩
  case round =>
    obtain ⟨k, hk, rfl, hst, rfl⟩ := hrel
    have HST := Lib.hid hst
    clear hst
    by_cases hlt : k < m
    · obtain ⟨y, hy⟩ : ∃ y, l[k]? = some y := ⟨_, List.getElem?_eq_getElem (by rw [HN.out]; exact hlt)⟩
      rcases hl with hnil | ⟨bb, off, rfl, hc⟩
      · rw [hnil] at hy; simp at hy
      have z0 := hc k _ hy 0 _ rfl
      rw [Nat.add_zero, Nat.mul_one] at z0
      have d1 : (0 : Int) ≤ k := by omega
      have d2 : (k : Int) < m := by omega
      have e1 : wrap64 ((k : Int) + 1) = (k : Int) + 1 := by unfold wrap64; omega
      have HY := Lib.hid hy
      have HK := Lib.hid hk
      clear hc hy hk
      by_cases hs : y = s
      · have q1 : (y == s) = true := by simpa using hs
        have HF : Hid (b = true) := Lib.hid (HBB.out.symm.trans (hasI_yes HY.out hs))
        clear hs
        go_wp2_with fail
        go_ret
        exact ⟨by rw [HF.out]; rfl, rfl⟩
      · have q1 : (y == s) = false := by simpa using hs
        have HT := Lib.hid (hasI_no HY.out HST.out hs)
        clear hs
        go_wp2_with fail
        go_roundg (m - (k + 1))
        case rel => exact ⟨k + 1, by have := HK.out; omega, by go_num, HT.out, rfl⟩
        case measure => have := HK.out; omega
    · have hkm : m = k := by omega
      subst hkm
      have HF : Hid (b = false) := Lib.hid (by have h := HST.out; rw [List.take_of_length_le (by rw [HN.out]; exact Nat.le_refl _)] at h; rw [← HBB.out, h])
      go_wp2_with fail
      go_ret
      exact ⟨by rw [HF.out]; rfl, rfl⟩
attribute [local irreducible] Sl.v
set_option maxRecDepth 100000 in
set_option maxHeartbeats 2000000 in
theorem r6needs_is (z : Nat) (r : Rt) (p : Int) (w : World) (hz : ndNum (ndAt r.nd p) = z) (hr : RtAt w r) (hlen : r.po.l.length + r.fl.l.length ≤ 100000) :
    Calls Try.prog 83 #[.agg #[.string r.nm, .int .i64 r.sg, r.pa.v, r.po.v, r.ov.v, r.fl.v], .int .i64 p] w fun e w' => e = .returned (.int .i64 (z : Int)) ∧ Below w.heap.size w w' := by
  have HND : Hid (∀ W, Below w.heap.size w W → Calls Try.prog 45 #[.agg #[.string r.nm, .int .i64 r.sg, r.pa.v, r.po.v, r.ov.v, r.fl.v]] W fun e w' => ∃ a n c, e = .returned (.slice a n c) ∧ n = r.po.l.length + r.fl.l.length ∧ SlAt 2 ndC w' ⟨a, c, r.nd⟩ ∧ Below W.heap.size W w') := Lib.hid (fun W hb => rneeds_is r W (hr.below hb) hlen)
  obtain ⟨m1, hm1⟩ : ∃ n, r.pa.l.length = n := ⟨_, rfl⟩
  obtain ⟨m2, hm2⟩ : ∃ n, r.po.l.length = n := ⟨_, rfl⟩
  obtain ⟨m3, hm3⟩ : ∃ n, r.ov.l.length = n := ⟨_, rfl⟩
  obtain ⟨m4, hm4⟩ : ∃ n, r.fl.l.length = n := ⟨_, rfl⟩
  obtain ⟨m, hm⟩ : ∃ m, m2 + m4 = m := ⟨_, rfl⟩
  obtain ⟨N, hN⟩ : ∃ N, r.nd = N := ⟨_, rfl⟩
  have HNL : Hid (N.length = m) := Lib.hid (by rw [← hN, ← hm, ← hm2, ← hm4]; exact List.length_append)
  have HML : Hid (m ≤ 100000) := Lib.hid (by omega)
  rw [hN, hm2, hm4, hm] at HND
  rw [slv hm1, slv hm2, slv hm3, slv hm4] at HND ⊢
  rw [hN] at hz
  have HZ := Lib.hid hz
  clear hm1 hm2 hm3 hm4 hr hlen hz hN hm
  go_enter Try.func83, Try.ntmps83
  go_wp2_with fail
  refine (HND.out _ (below1 w _)).mono ?_
  rintro e w1 ⟨na, nn, nc, rfl, hn, hs, hb⟩
  obtain rfl : m = nn := hn.symm
  have HS := Lib.hid hs.row
  have HB := Lib.hid (below_on (below1 w _) hb)
  clear hs hb HND
  go_wp2_with fail
  go_loopg [6] m (fun g i wr => ∃ k : Nat, k + g = m ∧ i = .int .i64 (k : Int) ∧ ndAt (N.drop k) p = ndAt N p ∧ w1 = wr)
  case atStart => exact ⟨0, by omega, rfl, rfl, rfl⟩
  case round =>
    obtain ⟨k, hk, rfl, hst, rfl⟩ := hrel
    have HST := Lib.hid hst
    clear hst
    by_cases hlt : k < m
    · obtain ⟨⟨y0, y1⟩, hy⟩ : ∃ y, N[k]? = some y := ⟨_, List.getElem?_eq_getElem (by rw [HNL.out]; exact hlt)⟩
      have hrow := HS.out
      try dsimp only at hrow
      rcases hrow with hnil | ⟨bb, off, rfl, hc⟩
      · rw [hnil] at hy; simp at hy
      have z0 := hc k _ hy 0 _ rfl
      have z1 := hc k _ hy 1 _ rfl
      rw [Nat.add_zero] at z0
      dsimp only at z0 z1
      have hd := ndAt_drop (p := p) hy
      rw [HST.out] at hd
      try dsimp only at hd
      have d1 : (0 : Int) ≤ k := by omega
      have d2 : (k : Int) < m := by omega
      have e1 : wrap64 ((k : Int) + 1) = (k : Int) + 1 := by have := HML.out; unfold wrap64; omega
      have HK := Lib.hid hk
      clear hc hy hk
      by_cases hs : y0 = p
      · rw [if_pos hs] at hd
        have q1 : (y0 == p) = true := by simpa using hs
        have HZ2 := HZ.out
        rw [hd] at HZ2
        have HD := Lib.hid HZ2
        clear hs hd HZ2
        cases y1 with
        | true =>
          go_wp2_with fail
          go_ret
          exact ⟨by rw [← HD.out]; rfl, HB.out⟩
        | false =>
          go_wp2_with fail
          go_ret
          exact ⟨by rw [← HD.out]; rfl, HB.out⟩
      · rw [if_neg hs] at hd
        have q1 : (y0 == p) = false := by simpa using hs
        have HD := Lib.hid hd.symm
        clear hs hd
        go_wp2_with fail
        go_roundg (m - (k + 1))
        case rel => exact ⟨k + 1, by have := HK.out; omega, by go_num, HD.out, rfl⟩
        case measure => have := HK.out; omega
    · have hkm : m = k := by omega
      subst hkm
      have HF : Hid (z = 0) := Lib.hid (by rw [← HZ.out, ← HST.out, ndAt_end HNL.out]; rfl)
      go_wp2_with fail
      go_ret
      exact ⟨by rw [HF.out]; rfl, HB.out⟩
end Go.Proofs.Ytjienmjpfklgeaa
