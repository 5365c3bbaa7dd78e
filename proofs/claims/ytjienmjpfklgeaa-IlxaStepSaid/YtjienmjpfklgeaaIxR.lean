/-
 Layer 10: which inputs are right, by the document.
-/
import Derived.Test.YtjienmjpfklgeaaMA
import Derived.Test.YtjienmjpfklgeaaIxA
import Derived.Test.YtjienmjpfklgeaaRef07
namespace Go.Proofs.Ytjienmjpfklgeaa
open Go.RowKit

/-- may a command be, of a layout of P points and R routes? -/
def cmdRight (P R : Nat) (c : Nat × Int) : Bool := decide ((c.1 = 1 ∨ c.1 = 2) ∧ 0 ≤ c.2 ∧ c.2 < R ∨ c.1 = 3 ∧ 0 ≤ c.2 ∧ c.2 < P)
/-- is an input right? (S, P, R: how many sections, points, routes there are, cut at their limits) -/
def inRight (S P R o n r : Nat) (l : List (Nat × Int)) : Bool := decide (o < 2 ^ S) && decide (n ||| r < 2 ^ P) && decide (l.length ≤ 8) && l.all (cmdRight P R)
theorem or32 (a b : Nat) (ha : a < 4294967296) (hb : b < 4294967296) : bits .or .u32 (a : Int) (b : Int) = ((a ||| b : Nat) : Int) := u32_or_nat a b ha hb

theorem in_wrong1 {S P R o n r : Nat} {l : List (Nat × Int)} (h : ¬ o < 2 ^ S) : inRight S P R o n r l = false := by simp [inRight, h]
theorem in_wrong2 {S P R o n r : Nat} {l : List (Nat × Int)} (h : ¬ n ||| r < 2 ^ P) : inRight S P R o n r l = false := by simp [inRight, h]
theorem in_wrong3 {S P R o n r : Nat} {l : List (Nat × Int)} (h : ¬ l.length ≤ 8) : inRight S P R o n r l = false := by simp [inRight, h]
theorem in_wrong4 {S P R o n r : Nat} {l : List (Nat × Int)} {k : Nat} {c : Nat × Int} (hk : l[k]? = some c) (h : cmdRight P R c = false) : inRight S P R o n r l = false := by
 have : l.all (cmdRight P R) = false := by
  rw [List.all_eq_false]; exact ⟨c, List.mem_of_getElem? hk, by simp [h]⟩
 simp [inRight, this]
theorem in_right {S P R o n r : Nat} {l : List (Nat × Int)} (h1 : o < 2 ^ S) (h2 : n ||| r < 2 ^ P) (h3 : l.length ≤ 8) (h4 : ∀ (k : Nat) (c : Nat × Int), l[k]? = some c → cmdRight P R c = true) : inRight S P R o n r l = true := by
 have : l.all (cmdRight P R) = true := by
  rw [List.all_eq_true]
  intro c hc
  obtain ⟨k, hk⟩ := List.getElem?_of_mem hc
  exact h4 k c hk
 simp [inRight, h1, h2, h3, this]
theorem notFirst (W o T : Nat) (ho : o < 2 ^ W) (hT : T ≤ W) : (o &&& (2 ^ W - (2 ^ T - 1 + 1)) = 0) ↔ o < 2 ^ T := by
 have hx : 2 ^ T - 1 < 2 ^ W := by
  have := Nat.pow_le_pow_right (n := 2) (by omega) hT
  have := Nat.two_pow_pos T
  omega
 have hM : ∀ i, (2 ^ W - (2 ^ T - 1 + 1)).testBit i = (decide (i < W) && !decide (i < T)) := fun i => by
  rw [Nat.testBit_two_pow_sub_succ hx, Nat.testBit_two_pow_sub_one]
 constructor
 ·intro h
  refine Nat.lt_pow_two_of_testBit _ fun i hi => ?_
  rcases Nat.lt_or_ge i W with h1 | h1
  ·have h2 := congrArg (·.testBit i) h
   simp only [Nat.testBit_and, hM, Nat.zero_testBit] at h2
   simpa [h1, show ¬ i < T by omega] using h2
  ·exact Nat.testBit_lt_two_pow (Nat.lt_of_lt_of_le ho (Nat.pow_le_pow_right (by omega) h1))
 ·intro h
  refine Nat.eq_of_testBit_eq fun i => ?_
  rw [Nat.testBit_and, hM, Nat.zero_testBit]
  rcases Nat.lt_or_ge i T with h1 | h1
  ·simp [h1]
  ·rw [Nat.testBit_lt_two_pow (Nat.lt_of_lt_of_le h (Nat.pow_le_pow_right (by omega) h1))]; rfl
theorem notFirst64 (o T : Nat) (ho : o < 18446744073709551616) (hT : T ≤ 64) : (bits .andNot .u64 (o : Int) ((pw T - 1 : Nat) : Int) != 0) = !decide (o < 2 ^ T) := by
 have hp := pw_pos T
 have hle : pw T ≤ 18446744073709551616 := by
  have := Nat.pow_le_pow_right (n := 2) (by omega) hT
  simpa [pw] using this
 rw [u64_andNot_nat _ _ ho (by omega)]
 have h := notFirst 64 o T ho hT
 rw [show 18446744073709551615 - (pw T - 1) = 2 ^ 64 - (2 ^ T - 1 + 1) by simp only [pw]; omega]
 rw [Bool.eq_iff_iff]
 simp only [bne_iff_ne, Bool.not_eq_true', decide_eq_false_iff_not]
 rw [← h]; omega
theorem notFirst32 (o T : Nat) (ho : o < 4294967296) (hT : T ≤ 32) : (bits .andNot .u32 (o : Int) ((pw T - 1 : Nat) : Int) != 0) = !decide (o < 2 ^ T) := by
 have hp := pw_pos T
 have hle : pw T ≤ 4294967296 := by
  have := Nat.pow_le_pow_right (n := 2) (by omega) hT
  simpa [pw] using this
 rw [u32_andNot_nat _ _ ho (by omega)]
 have h := notFirst 32 o T ho hT
 rw [show 4294967295 - (pw T - 1) = 2 ^ 32 - (2 ^ T - 1 + 1) by simp only [pw]; omega]
 rw [Bool.eq_iff_iff]
 simp only [bne_iff_ne, Bool.not_eq_true', decide_eq_false_iff_not]
 rw [← h]; omega
theorem or_lt_iff (n r P : Nat) : n ||| r < 2 ^ P ↔ n < 2 ^ P ∧ r < 2 ^ P :=
 ⟨fun h => ⟨Nat.lt_of_le_of_lt Nat.left_le_or h, Nat.lt_of_le_of_lt Nat.right_le_or h⟩, fun h => Nat.or_lt_two_pow h.1 h.2⟩

theorem refright_bits {S P R o n r : Nat} {l : List (Nat × Int)} (h : ¬ n < 2 ^ P ∨ ¬ r < 2 ^ P) : inRight S P R o n r l = false := by
 refine in_wrong2 fun h2 => ?_
 have := (or_lt_iff n r P).1 h2
 rcases h with h | h
 ·exact h this.1
 ·exact h this.2

attribute [local irreducible] inRight cmdRight pw
set_option maxRecDepth 100000 in
set_option maxHeartbeats 4000000 in
theorem refright_any (s p g q : Nat) (a1 a2 a3 a4 : Option Addr) (cs cp cg cq : Nat) (o n r : Nat) (a : Option Addr) (l : List (Nat × Int)) (len cap : Nat) (w : World) (hl : l.length = len) (hll : len ≤ 1000) (hs : s ≤ 1000) (hp : p ≤ 1000) (hq : q ≤ 1000)
 (hc : CmdsAt w a l) (ho : o < 18446744073709551616) (hn : n < 4294967296) (hr : r < 4294967296) :
 Calls Try.prog 58 #[.agg #[.slice a1 s cs, .slice a2 p cp, .slice a3 g cg, .slice a4 q cq], .agg #[.int .u64 (o : Int), .int .u32 (n : Int), .int .u32 (r : Int), .slice a len cap]] w
  fun e w' => e = .returned (.bool (inRight (min s 64) (min p 32) (min q 64) o n r l)) ∧ Below w.heap.size w w' := by
 obtain ⟨S, hS, hS2⟩ : ∃ S : Nat, S = min s 64 ∧ S ≤ 64 := ⟨_, rfl, by omega⟩
 obtain ⟨P, hP, hP2⟩ : ∃ P : Nat, P = min p 32 ∧ P ≤ 32 := ⟨_, rfl, by omega⟩
 obtain ⟨R, hR, hR2⟩ : ∃ R : Nat, R = min q 64 ∧ R ≤ 64 := ⟨_, rfl, by omega⟩
 rw [← hS, ← hP, ← hR]
 have HP3 : Hid (min (p : Int) 32 = (P : Int)) := Lib.hid (by omega)
 have HR3 : Hid (min (q : Int) 64 = (R : Int)) := Lib.hid (by omega)
 have HS3 : Hid ((S : Int) = max 0 (min (s : Int) 64)) := Lib.hid (by omega)
 have HP4 : Hid ((P : Int) = max 0 (min (P : Int) 64)) := Lib.hid (by omega)
 have HO := Lib.hid (notFirst64 o S ho hS2)
 have HN := Lib.hid (notFirst32 n P hn hP2)
 have HR := Lib.hid (notFirst32 r P hr hP2)
 have HC : Hid (((pw P - 1 : Nat) : Int) % 4294967296 = ((pw P - 1 : Nat) : Int)) := Lib.hid (by
  have h1 : pw P ≤ 4294967296 := by
   have := Nat.pow_le_pow_right (n := 2) (by omega) hP2
   rw [pw_eq]; simpa using this
  have h2 := pw_pos P
  omega)
 clear hS hP hR ho hn hr
 have HL := Lib.hid hl
 clear hl
 by_cases h1 : o < 2 ^ S
 ·have hq1 : (bits .andNot .u64 (o : Int) ((pw S - 1 : Nat) : Int) != 0) = false := by rw [HO.out, decide_eq_true h1]; rfl
  have H1 := Lib.hid h1
  clear h1
  go_enter Try.func58, Try.ntmps58
  go_wp2_with fail
  go_quiet ((go_at_call 43; exact Calls.quiet_of_same ((first_any _ S _ HS3.out).mono fun e w' ⟨h1, h2⟩ => ⟨h1, h2.symm⟩)))
  clear hq1
  by_cases h3 : len ≤ 8
  ·have hp3 := HP3.out
   go_wp2_with fail
   refine (first_any _ P _ HP4.out).mono ?_
   rintro e w' ⟨rfl, rfl⟩
   have hcc := HC.out
   have hq2 := HN.out
   have hq3 := HR.out
   clear hp3
   by_cases h4 : n < 2 ^ P
   ·rw [decide_eq_true h4] at hq2
    by_cases h5 : r < 2 ^ P
    ·rw [decide_eq_true h5] at hq3
     have H4 := Lib.hid h4
     have H5 := Lib.hid h5
     clear h4 h5
     go_wp2_with fail
     have hb01 : Below w.heap.size w (((w.alloc (Obj.cells #[Value.slice a1 s cs, Value.slice a2 p cp, Value.slice a3 g cg, Value.slice a4 q cq] 27)).alloc (Obj.cells #[Value.int IntKind.u64 ↑o, Value.int IntKind.u32 ↑n, Value.int IntKind.u32 ↑r, Value.slice a len cap] 35)).drewN nq) := below_drewN (below2' _ _ _) _
     have hbk := alloc2n w (Obj.cells #[Value.slice a1 s cs, Value.slice a2 p cp, Value.slice a3 g cg, Value.slice a4 q cq] 27) (Obj.cells #[Value.int IntKind.u64 ↑o, Value.int IntKind.u32 ↑n, Value.int IntKind.u32 ↑r, Value.slice a len cap] 35) nq
     obtain ⟨W1, hW1⟩ : ∃ W1, W1 = ((w.alloc (Obj.cells #[Value.slice a1 s cs, Value.slice a2 p cp, Value.slice a3 g cg, Value.slice a4 q cq] 27)).alloc (Obj.cells #[Value.int IntKind.u64 ↑o, Value.int IntKind.u32 ↑n, Value.int IntKind.u32 ↑r, Value.slice a len cap] 35)).drewN nq := ⟨_, rfl⟩
     rw [← hW1] at hb01 hbk ⊢
     clear hW1
     obtain ⟨kA, kB⟩ := hbk
     clear hq2 hq3 hcc
     go_loopw [6] (fun i wr => ∃ k : Nat, k ≤ len ∧ i = .int .i64 k ∧ (∀ (j : Nat) (c : Nat × Int), j < k → l[j]? = some c → cmdRight P R c = true) ∧ Below W1.heap.size W1 wr) (fun i _ => len - (intOf i).toNat)
     case atStart => exact ⟨0, by omega, rfl, fun j c h => by omega, Below.refl _ _⟩
     case round =>
      obtain ⟨k, hk, rfl, hall, hB⟩ := hrel
      have HA := Lib.hid hall
      have hB0 := below_next hb01 hb01.size hB
      have kA := blk_keep hB kA
      have kB := blk_keep hB kB
      have eA1 := blk_cell kA 1 _ rfl
      have eA3 := blk_cell kA 3 _ rfl
      have eB3 := blk_cell kB 3 _ rfl
      have xA := World.block_lt_of_cell? _ _ eA1
      have xB := World.block_lt_of_cell? _ _ eB3
      clear hall kA kB
      by_cases hlt : k < len
      ·obtain ⟨b, off, c, m, rfl, g1, l1, i1, c1, c2⟩ := (hc.below hB0).at (i := k) (by rw [HL.out]; exact hlt)
       have G1 := Lib.hid g1
       clear g1
       have d1 : (0 : Int) ≤ k := by omega
       have x1 := World.block_lt_of_cell? _ _ c1
       have hnext : cmdRight P R (c, m) = true → Hid (∀ (j : Nat) (c : Nat × Int), j < k + 1 → l[j]? = some c → cmdRight P R c = true) := fun h => Lib.hid (fun j c' hj hc' => by
        by_cases hjk : j = k
        ·subst hjk; rw [G1.out] at hc'; cases hc'; exact h
        ·exact HA.out j c' (by omega) hc')
       have HX := Lib.hid hnext
       clear hnext
       by_cases e1 : c = 1
       ·have q3 : ((c : Int) == 3) = false := by simp; omega
        have q4 : ¬ (c : Int) < 1 := by omega
        have q5 : ¬ (3 : Int) < (c : Int) := by omega
        by_cases b1 : 0 ≤ m
        ·by_cases b2 : m < R
         ·have HR := HX.out (by unfold cmdRight; exact decide_eq_true (by omega))
          have hr3 := HR3.out
          clear e1
          go_wp2_with fail
          go_roundw
          case rel => exact ⟨k + 1, by omega, by go_num, HR.out, hB.alloc hB.size _⟩
          case measure => simp [intOf]; omega
         ·have HR : Hid (cmdRight P R (c, m) = false) := Lib.hid (by unfold cmdRight; exact decide_eq_false (by omega))
          have hr3 := HR3.out
          clear e1
          go_wp2_with fail
          go_ret
          exact ⟨ret_bool (in_wrong4 G1.out HR.out).symm, hB0.alloc hB0.size _⟩
        ·have HR : Hid (cmdRight P R (c, m) = false) := Lib.hid (by unfold cmdRight; exact decide_eq_false (by omega))
         have hr3 := HR3.out
         clear e1
         go_wp2_with fail
         go_ret
         exact ⟨ret_bool (in_wrong4 G1.out HR.out).symm, hB0.alloc hB0.size _⟩
       ·by_cases e2 : c = 2
        ·have q3 : ((c : Int) == 3) = false := by simp; omega
         have q4 : ¬ (c : Int) < 1 := by omega
         have q5 : ¬ (3 : Int) < (c : Int) := by omega
         by_cases b1 : 0 ≤ m
         ·by_cases b2 : m < R
          ·have HR := HX.out (by unfold cmdRight; exact decide_eq_true (by omega))
           have hr3 := HR3.out
           clear e1 e2
           go_wp2_with fail
           go_roundw
           case rel => exact ⟨k + 1, by omega, by go_num, HR.out, hB.alloc hB.size _⟩
           case measure => simp [intOf]; omega
          ·have HR : Hid (cmdRight P R (c, m) = false) := Lib.hid (by unfold cmdRight; exact decide_eq_false (by omega))
           have hr3 := HR3.out
           clear e1 e2
           go_wp2_with fail
           go_ret
           exact ⟨ret_bool (in_wrong4 G1.out HR.out).symm, hB0.alloc hB0.size _⟩
         ·have HR : Hid (cmdRight P R (c, m) = false) := Lib.hid (by unfold cmdRight; exact decide_eq_false (by omega))
          have hr3 := HR3.out
          clear e1 e2
          go_wp2_with fail
          go_ret
          exact ⟨ret_bool (in_wrong4 G1.out HR.out).symm, hB0.alloc hB0.size _⟩
        ·by_cases e3 : c = 3
         ·have q3 : ((c : Int) == 3) = true := by simp; omega
          have q4 : ¬ (c : Int) < 1 := by omega
          have q5 : ¬ (3 : Int) < (c : Int) := by omega
          by_cases b1 : 0 ≤ m
          ·by_cases b2 : m < P
           ·have HR := HX.out (by unfold cmdRight; exact decide_eq_true (by omega))
            have hr3 := HR3.out; have hp3 := HP3.out
            clear e1 e2 e3
            go_wp2_with fail
            go_roundw
            case rel => exact ⟨k + 1, by omega, by go_num, HR.out, hB.alloc hB.size _⟩
            case measure => simp [intOf]; omega
           ·have HR : Hid (cmdRight P R (c, m) = false) := Lib.hid (by unfold cmdRight; exact decide_eq_false (by omega))
            have hr3 := HR3.out; have hp3 := HP3.out
            clear e1 e2 e3
            go_wp2_with fail
            go_ret
            exact ⟨ret_bool (in_wrong4 G1.out HR.out).symm, hB0.alloc hB0.size _⟩
          ·have HR : Hid (cmdRight P R (c, m) = false) := Lib.hid (by unfold cmdRight; exact decide_eq_false (by omega))
           have hr3 := HR3.out; have hp3 := HP3.out
           clear e1 e2 e3
           go_wp2_with fail
           go_ret
           exact ⟨ret_bool (in_wrong4 G1.out HR.out).symm, hB0.alloc hB0.size _⟩
         ·by_cases e4 : c < 1
          ·have HR : Hid (cmdRight P R (c, m) = false) := Lib.hid (by unfold cmdRight; exact decide_eq_false (by omega))
           have q3 : ((c : Int) == 3) = false := by simp; omega
           have q4 : (c : Int) < 1 := by omega
           have hr3 := HR3.out
           clear e1 e2 e3 e4
           go_wp2_with fail
           go_ret
           exact ⟨ret_bool (in_wrong4 G1.out HR.out).symm, hB0.alloc hB0.size _⟩
          ·have HR : Hid (cmdRight P R (c, m) = false) := Lib.hid (by unfold cmdRight; exact decide_eq_false (by omega))
           have q3 : ((c : Int) == 3) = false := by simp; omega
           have q4 : ¬ (c : Int) < 1 := by omega
           have q5 : (3 : Int) < (c : Int) := by omega
           have hr3 := HR3.out
           clear e1 e2 e3 e4
           go_wp2_with fail
           go_ret
           exact ⟨ret_bool (in_wrong4 G1.out HR.out).symm, hB0.alloc hB0.size _⟩
      ·obtain rfl : k = len := by omega
       go_wp2_with fail
       go_ret
       exact ⟨ret_bool (in_right H1.out ((or_lt_iff n r P).2 ⟨H4.out, H5.out⟩) (by rw [HL.out]; exact h3) (fun j c hj => HA.out j c (by rw [← HL.out]; exact (List.getElem?_eq_some_iff.1 hj).1) hj)).symm, hB0⟩
    ·rw [decide_eq_false h5] at hq3
     have H5 := Lib.hid h5
     clear h4 h5
     go_wp2_with fail
     go_ret
     exact ⟨ret_bool (refright_bits (.inr H5.out)).symm, below_drewN (below2' _ _ _) _⟩
   ·rw [decide_eq_false h4] at hq2
    have H4 := Lib.hid h4
    clear h4 hq3
    go_wp2_with fail
    go_ret
    exact ⟨ret_bool (refright_bits (.inl H4.out)).symm, below_drewN (below2' _ _ _) _⟩
  ·go_wp2_with fail
   go_ret
   exact ⟨ret_bool (in_wrong3 (by rw [HL.out]; exact h3)).symm, below_drewN (below2' _ _ _) _⟩
 ·have hq1 : (bits .andNot .u64 (o : Int) ((pw S - 1 : Nat) : Int) != 0) = true := by rw [HO.out, decide_eq_false h1]; rfl
  have H1 := Lib.hid h1
  clear h1
  go_enter Try.func58, Try.ntmps58
  go_wp2_with fail
  go_quiet ((go_at_call 43; exact Calls.quiet_of_same ((first_any _ S _ HS3.out).mono fun e w' ⟨h1, h2⟩ => ⟨h1, h2.symm⟩)))
  go_wp2_with fail
  go_ret
  exact ⟨ret_bool (in_wrong1 H1.out).symm, below_drewN (below2' _ _ _) _⟩
end Go.Proofs.Ytjienmjpfklgeaa
