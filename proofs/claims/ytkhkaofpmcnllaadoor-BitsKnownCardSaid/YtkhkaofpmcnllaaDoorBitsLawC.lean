/-
  The walk of the statement BitsBack of chapter 7.
-/
import Derived.Test.YtkhkaofpmcnllaaDoorBitsB
namespace Go.Proofs.YtkhkaofpmcnllaaDoor
open Go.RowKit
attribute [local irreducible] pw hasBit withBit woBit mems ofN withI anyN anyAt anyR memB hasI woI lowN ints

theorem quiet_flip {P : Program} {f : FuncId} {args : Array Value} {w : World} {n : Nat} {v : Value}
    (h : Calls P f args (w.drewN n) fun e w' => e = .returned v ∧ w.drewN n = w') : Calls P f args (w.drewN n) fun e w'' => e = .returned v ∧ ∃ m, w'' = w.drewN m :=
  h.mono fun _ _ ⟨he, hm⟩ => ⟨he, n, hm.symm⟩
set_option maxHeartbeats 2000000 in
theorem walk_BitsBack (a0 a1 : Int) (w : World) (w0 : (Lit.int .u64 a0).wf = true) (_ : (Lit.int .i64 a1).wf = true) (ht : TabAt w) :
    Calls Tryd.prog 8 #[.int .u64 a0, .int .i64 a1] w fun e w' => e = .returned (.bool true) ∧ Below w.heap.size w w' := by
  obtain ⟨x, rfl, hx⟩ := u64_nat w0
  obtain ⟨n, hn⟩ : ∃ n, (mems x 64).length = n := ⟨_, rfl⟩
  obtain ⟨lo, hlo⟩ : ∃ m, lowN x = m := ⟨_, rfl⟩
  obtain ⟨M, hM⟩ : ∃ M, ints (mems x 64) = M := ⟨_, rfl⟩
  obtain ⟨H, hH⟩ : ∃ H, hasI x a1 = H := ⟨_, rfl⟩
  obtain ⟨y, hy⟩ : ∃ y, withI x a1 = y := ⟨_, rfl⟩
  obtain ⟨z, hz⟩ : ∃ z, woI x a1 = z := ⟨_, rfl⟩
  obtain ⟨K, hK⟩ : ∃ K, decide (0 ≤ a1 ∧ a1 ≤ 63) = K := ⟨_, rfl⟩
  have n64 : n ≤ 64 := by rw [← hn]; exact mems_len x 64
  have hyl : y < 18446744073709551616 := by rw [← hy]; exact withI_lt a1 hx
  have hzl : z < 18446744073709551616 := by rw [← hz]; exact woI_lt a1 hx
  have HL : Hid (∀ w, Calls Tryd.prog 19 #[.int .u64 x] w fun e w' => ∃ a c, e = .returned (.slice a n c) ∧ IntsAt w' a M ∧ Below w.heap.size w w') := Lib.hid fun w =>
    (list_any x w hx).mono fun e w' ⟨v, h1, h2, h3⟩ => by
      rw [hn] at h2
      obtain ⟨a, c, rfl, h4⟩ := own_ints (mems_small x) hn h2
      exact ⟨a, c, h1, hM ▸ h4, h3⟩
  have HN : Hid (M.length = n) := Lib.hid (by rw [← hM, ints_len, hn])
  have HOF : Hid (∀ a c w, IntsAt w a M → Calls Tryd.prog 17 #[.slice a n c] w fun e w' => e = .returned (.int .u64 (x : Int)) ∧ w = w') := Lib.hid fun a c w ha => by
    have := of_any a n c M w HN.out (by unfold maxLen; omega) ha
    rw [← hM, of_list x hx] at this; exact this
  have HC : Hid (∀ w, Calls Tryd.prog 22 #[.int .u64 x] w fun e w' => e = .returned (.int .i64 (n : Int)) ∧ w = w') := Lib.hid fun w => by have := count_any x w hx; rw [hn] at this; exact this
  have HO : Hid (∀ w, TabAt w → Calls Tryd.prog 24 #[.int .u64 x] w fun e w' => e = .returned (.int .i64 (lo : Int)) ∧ w = w') := Lib.hid fun w ht => by have := low_any x w hx ht; rw [hlo] at this; exact this
  have HH : Hid (∀ w, Calls Tryd.prog 10 #[.int .u64 x, .int .i64 a1] w fun e w' => e = .returned (.bool H) ∧ w = w') := Lib.hid fun w => by have := bhasI_any x a1 w hx; rw [hH] at this; exact this
  have HW : Hid (∀ w, Calls Tryd.prog 12 #[.int .u64 x, .int .i64 a1] w fun e w' => e = .returned (.int .u64 (y : Int)) ∧ w = w') := Lib.hid fun w => by have := bwithI_any x a1 w hx; rw [hy] at this; exact this
  have HZ : Hid (∀ w, Calls Tryd.prog 14 #[.int .u64 x, .int .i64 a1] w fun e w' => e = .returned (.int .u64 (z : Int)) ∧ w = w') := Lib.hid fun w => by have := bwoI_any x a1 w hx; rw [hz] at this; exact this
  have HHY : Hid (∀ w, Calls Tryd.prog 10 #[.int .u64 y, .int .i64 a1] w fun e w' => e = .returned (.bool K) ∧ w = w') := Lib.hid fun w => by have := bhasI_any y a1 w hyl; rw [← hy, hasI_with, hK, hy] at this; exact this
  have HHZ : Hid (∀ w, Calls Tryd.prog 10 #[.int .u64 z, .int .i64 a1] w fun e w' => e = .returned (.bool false) ∧ w = w') := Lib.hid fun w => by have := bhasI_any z a1 w hzl; rw [← hz, hasI_wo x a1 hx, hz] at this; exact this
  have HZY : Hid (∀ w, Calls Tryd.prog 14 #[.int .u64 y, .int .i64 a1] w fun e w' => e = .returned (.int .u64 (z : Int)) ∧ w = w') := Lib.hid fun w => by have := bwoI_any y a1 w hyl; rw [← hy, wo_with x a1 hx, hz, hy] at this; exact this
  have HWZ : Hid (∀ w, Calls Tryd.prog 12 #[.int .u64 z, .int .i64 a1] w fun e w' => e = .returned (.int .u64 (y : Int)) ∧ w = w') := Lib.hid fun w => by have := bwithI_any z a1 w hzl; rw [← hz, with_wo x a1 hx, hy, hz] at this; exact this
  have HYZ : bits .or .u64 (y : Int) (z : Int) = (y : Int) := by rw [u64_or_nat y z hyl hzl, ← hy, ← hz, or_with_wo x a1 hx]
  have HMB : Hid (memB M a1 n = H) := Lib.hid (by rw [← hM, memB_all x a1 n (by rw [ints_len, hn]), hH])
  have HRISE : Hid (∀ i a b, M[i]? = some a → M[i + 1]? = some b → a < b) := Lib.hid (by rw [← hM]; exact fun i a b => ints_rise x i a b)
  have HHEAD : Hid ((n = 0 ∧ lo = 64) ∨ (0 < n ∧ M[0]? = some (lo : Int))) := Lib.hid (by rw [← hM, ← hlo]; exact low_head x n hn)
  have HK := Lib.hid hK
  clear hn hlo hM hH hy hz hK w0 hx hyl hzl
  go_enter Tryd.func8, Tryd.ntmps8
  go_wp2_with fail
  refine (HL.out _).mono ?_
  rintro e w1 ⟨al, cl, rfl, hI, hb1⟩
  go_wp2_with fail
  go_loopg [6, 7] n (fun m s i wr => ∃ k, k + m = n ∧ i = .int .i64 k ∧ s = .bool (memB M a1 k) ∧ Below w1.heap.size w1 wr)
  case atStart => exact ⟨0, by omega, rfl, by rw [memB_zero], Below.refl _ _⟩
  case round =>
    obtain ⟨k, hk, rfl, rfl, hB⟩ := hrel
    by_cases hkn : k < n
    · have hIr := hI.below hB
      obtain ⟨c, hc⟩ : ∃ c, M[k]? = some c := ⟨_, List.getElem?_eq_getElem (by rw [HN.out]; exact hkn)⟩
      rcases hIr.2 with hnil | ⟨b, off, rfl, hcell⟩
      · rw [hnil] at hc; simp at hc
      have z0 := hcell k c hc
      have d1 : (k : Int) < n := by omega
      have d2 : (0 : Int) ≤ k := by omega
      obtain ⟨B1, hB1⟩ : ∃ B, memB M a1 k = B := ⟨_, rfl⟩
      have HS : Hid (memB M a1 (k + 1) = (B1 || decide (c = a1))) := Lib.hid (by rw [memB_succ a1 hc, hB1])
      rw [hB1]
      obtain ⟨D, hD⟩ : ∃ D, decide (c = a1) = D := ⟨_, rfl⟩
      rw [hD] at HS
      have hDe : (c == a1) = D := by rw [← hD]; rfl
      by_cases hpos : 0 < k
      · obtain ⟨k9, hk9⟩ : ∃ k9, k = k9 + 1 := ⟨k - 1, by omega⟩
        obtain ⟨c9, hc9⟩ : ∃ c, M[k9]? = some c := ⟨_, List.getElem?_eq_getElem (by rw [HN.out]; omega)⟩
        have z9 := hcell k9 c9 hc9
        have hlt9 : ¬ c ≤ c9 := by have := HRISE.out k9 c9 c hc9 (hk9 ▸ hc); omega
        have w9 : wrap64 ((k : Int) - 1) = (k9 : Int) := by unfold wrap64; omega
        have w9' : IntKind.i64.wrap ((k : Int) - 1) = (k9 : Int) := by rw [IntKind.wrap_i64]; omega
        have d3 : (k9 : Int) < n := by omega
        have d4 : (0 : Int) ≤ k9 := by omega
        have d5 : (0 : Int) < k := by omega
        clear hcell hc hc9 hD hI hIr hB1 hk9
        cases B1
        all_goals
          go_wp2_with fail
          go_quiet (fail)
          go_wp2_with fail
          go_roundg (n - (k + 1))
          case rel => exact ⟨k + 1, by omega, by go_num, by rw [HS.out]; rfl, below_drewN hB _⟩
          case measure => omega
      · have d5 : ¬ (0 : Int) < k := by omega
        clear hcell hc hD hI hIr hB1
        cases B1
        all_goals
          go_wp2_with fail
          go_quiet (fail)
          go_wp2_with fail
          go_roundg (n - (k + 1))
          case rel => exact ⟨k + 1, by omega, by go_num, by rw [HS.out]; rfl, below_drewN hB _⟩
          case measure => omega
    · obtain rfl : k = n := by omega
      rw [HMB.out]
      have hIr := hI.below hB
      have htr := ht.below (below_on hb1 hB)
      have hBr := below_on hb1 hB
      clear hI hB
      have three : (0 ≤ a1 ∧ a1 < 64 ∧ K = true) ∨ (a1 < 0 ∧ K = false) ∨ (0 ≤ a1 ∧ decide (a1 < 64) = false ∧ K = false) := by
        rcases (show (0 ≤ a1 ∧ a1 < 64) ∨ a1 < 0 ∨ (0 ≤ a1 ∧ ¬ a1 < 64) by omega) with h | h | h
        · exact .inl ⟨h.1, h.2, by rw [← HK.out]; exact decide_eq_true (by omega)⟩
        · exact .inr (.inl ⟨h, by rw [← HK.out]; exact decide_eq_false (by omega)⟩)
        · exact .inr (.inr ⟨h.1, decide_eq_false h.2, by rw [← HK.out]; exact decide_eq_false (by omega)⟩)
      have H3 := Lib.hid three
      clear three
      rcases HHEAD.out with ⟨rfl, rfl⟩ | ⟨hpos, hhd⟩
      · cases H
        all_goals
          go_wp2_with fail
          go_quiet (first
            | (go_at_call 17; exact quiet_flip (HOF.out _ _ _ hIr))
            | (go_at_call 22; exact quiet_flip (HC.out _))
            | (go_at_call 24; exact quiet_flip (HO.out _ htr))
            | (go_at_call 10; exact quiet_flip (HH.out _)))
          have hBq := below_drewN hBr nq
          have htq : TabAt (wr.drewN nq) := htr
          rcases H3.out with ⟨e1, e2, rfl⟩ | ⟨e1, rfl⟩ | ⟨e1, e2, rfl⟩
          all_goals
            go_wp2_with fail
            refine (HW.out _).mono ?_
            rintro e v1 ⟨rfl, rfl⟩
            go_wp2_with fail
            refine (HZ.out _).mono ?_
            rintro e v1 ⟨rfl, rfl⟩
            go_wp2_with fail
            refine (HHY.out _).mono ?_
            rintro e v1 ⟨rfl, rfl⟩
            go_wp2_with fail
            refine (HHZ.out _).mono ?_
            rintro e v1 ⟨rfl, rfl⟩
            go_wp2_with fail
            refine (HZY.out _).mono ?_
            rintro e v1 ⟨rfl, rfl⟩
            go_wp2_with fail
            refine (HWZ.out _).mono ?_
            rintro e v1 ⟨rfl, rfl⟩
            go_wp2_with fail
            refine (works_any _ htq).mono ?_
            rintro e v2 ⟨rfl, hbv⟩
            go_wp2_with fail
            go_ret
            exact ⟨rfl, below_on hBq hbv⟩
      · rcases hIr.2 with hnil | ⟨b, off, rfl, hcell⟩
        · rw [hnil] at hhd; cases hhd
        have z0 := hcell 0 _ hhd
        rw [Nat.add_zero] at z0
        have d1 : (0 : Int) < k := by omega
        have d6 : ((k : Int) == 0) = false := by rw [beq_eq_false_iff_ne]; omega
        clear hhd hcell
        cases H
        all_goals
          go_wp2_with fail
          go_quiet (first
            | (go_at_call 17; exact quiet_flip (HOF.out _ _ _ hIr))
            | (go_at_call 22; exact quiet_flip (HC.out _))
            | (go_at_call 24; exact quiet_flip (HO.out _ htr))
            | (go_at_call 10; exact quiet_flip (HH.out _)))
          have hBq := below_drewN hBr nq
          have htq : TabAt (wr.drewN nq) := htr
          rcases H3.out with ⟨e1, e2, rfl⟩ | ⟨e1, rfl⟩ | ⟨e1, e2, rfl⟩
          all_goals
            go_wp2_with fail
            refine (HW.out _).mono ?_
            rintro e v1 ⟨rfl, rfl⟩
            go_wp2_with fail
            refine (HZ.out _).mono ?_
            rintro e v1 ⟨rfl, rfl⟩
            go_wp2_with fail
            refine (HHY.out _).mono ?_
            rintro e v1 ⟨rfl, rfl⟩
            go_wp2_with fail
            refine (HHZ.out _).mono ?_
            rintro e v1 ⟨rfl, rfl⟩
            go_wp2_with fail
            refine (HZY.out _).mono ?_
            rintro e v1 ⟨rfl, rfl⟩
            go_wp2_with fail
            refine (HWZ.out _).mono ?_
            rintro e v1 ⟨rfl, rfl⟩
            go_wp2_with fail
            refine (works_any _ htq).mono ?_
            rintro e v2 ⟨rfl, hbv⟩
            go_wp2_with fail
            go_ret
            exact ⟨rfl, below_on hBq hbv⟩
end Go.Proofs.YtkhkaofpmcnllaaDoor
