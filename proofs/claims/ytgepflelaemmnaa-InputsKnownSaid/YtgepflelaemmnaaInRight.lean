/-
  Walks of package inputs: Right.
-/
import Derived.Test.YtgepflelaemmnaaInSides
namespace Go.Proofs.Ytgepflelaemmnaa
open Go.RowKit

/-- may a command be, of a layout of P points and R routes? -/
def cmdRight (P R : Nat) (c : Nat × Int) : Bool := decide ((c.1 = 1 ∨ c.1 = 2) ∧ 0 ≤ c.2 ∧ c.2 < R ∨ c.1 = 3 ∧ 0 ≤ c.2 ∧ c.2 < P)
/-- is an input right? (S, P, R: how many sections, points, routes there are, cut at their limits) -/
def inRight (S P R o n r : Nat) (l : List (Nat × Int)) : Bool := decide (o < 2 ^ S) && decide (n ||| r < 2 ^ P) && decide (l.length ≤ 8) && l.all (cmdRight P R)
theorem or32 (a b : Nat) (ha : a < 4294967296) (hb : b < 4294967296) : bits .or .u32 (a : Int) (b : Int) = ((a ||| b : Nat) : Int) := u32_or_nat a b ha hb

theorem in_wrong1 {S P R o n r : Nat} {l : List (Nat × Int)} (h : ¬ o < 2 ^ S) : inRight S P R o n r l = false := by simp [inRight, h]
theorem in_wrong2 {S P R o n r : Nat} {l : List (Nat × Int)} (h : ¬ n ||| r < 2 ^ P) : inRight S P R o n r l = false := by simp [inRight, h]
theorem in_wrong3 {S P R o n r : Nat} {l : List (Nat × Int)} (h : ¬ l.length ≤ 8) : inRight S P R o n r l = false := by simp [inRight, h]
theorem in_wrong4 {S P R o n r : Nat} {l : List (Nat × Int)} {k : Nat} {c : Nat × Int} (hk : l[k]? = some c) (h : cmdRight P R c = false) : inRight S P R o n r l = false := by
  have : l.all (cmdRight P R) = false := by
    rw [List.all_eq_false]; exact ⟨c, List.mem_of_getElem? hk, by simp [h]⟩
  simp [inRight, this]
theorem in_right {S P R o n r : Nat} {l : List (Nat × Int)} (h1 : o < 2 ^ S) (h2 : n ||| r < 2 ^ P) (h3 : l.length ≤ 8) (h4 : ∀ (k : Nat) (c : Nat × Int), l[k]? = some c → cmdRight P R c = true) : inRight S P R o n r l = true := by
  have : l.all (cmdRight P R) = true := by
    rw [List.all_eq_true]
    intro c hc
    obtain ⟨k, hk⟩ := List.getElem?_of_mem hc
    exact h4 k c hk
  simp [inRight, h1, h2, h3, this]
attribute [local irreducible] inRight cmdRight
set_option maxRecDepth 100000 in
set_option maxHeartbeats 1000000 in
theorem right_any (s p g q : Nat) (a1 a2 a3 a4 : Option Addr) (cs cp cg cq : Nat) (o n r : Nat) (a : Option Addr) (l : List (Nat × Int)) (len cap : Nat) (w : World) (hl : l.length = len) (hll : len ≤ 1000) (hs : s ≤ 1000) (hp : p ≤ 1000) (hq : q ≤ 1000)
    (hc : CmdsAt w a l) (hn : n < 4294967296) (hr : r < 4294967296) :
    Calls Try.prog 10 #[.agg #[.slice a1 s cs, .slice a2 p cp, .slice a3 g cg, .slice a4 q cq], .agg #[.int .u64 (o : Int), .int .u32 (n : Int), .int .u32 (r : Int), .slice a len cap]] w
      fun e w' => e = .returned (.bool (inRight (min s 64) (min p 32) (min q 64) o n r l)) ∧ Below w.heap.size w w' := by
  obtain ⟨S, hS, hS2⟩ : ∃ S : Nat, S = min s 64 ∧ S ≤ 64 := ⟨_, rfl, by omega⟩
  obtain ⟨P, hP, hP2⟩ : ∃ P : Nat, P = min p 32 ∧ P ≤ 32 := ⟨_, rfl, by omega⟩
  obtain ⟨R, hR, hR2⟩ : ∃ R : Nat, R = min q 64 ∧ R ≤ 64 := ⟨_, rfl, by omega⟩
  rw [← hS, ← hP, ← hR]
  have HS := Lib.hid hS
  have HP := Lib.hid hP
  have HR := Lib.hid hR
  have HP3 : Hid ((if (32 : Int) < (p : Int) then 32 else (p : Int)) = (P : Int)) := Lib.hid (by split <;> omega)
  have HR3 : Hid ((if (64 : Int) < (q : Int) then 64 else (q : Int)) = (R : Int)) := Lib.hid (by split <;> omega)
  have hS3 : (if (64 : Int) < (s : Int) then 64 else (s : Int)) = (S : Int) := by split <;> omega
  clear hS hP hR
  have HO := Lib.hid (or32 n r hn hr)
  have HL := Lib.hid hl
  clear hl
  go_enter Try.func10, Try.ntmps10
  go_wp2_with fail
  go_region
  rw [HP3.out, HR3.out]
  go_wp2_with fail
  refine (within64_any o S _ hS2).mono ?_
  rintro e w' ⟨rfl, rfl⟩
  clear hS3
  by_cases h1 : o < 2 ^ S
  · rw [decide_eq_true h1]
    go_wp2_with fail
    rw [HO.out]
    refine (within32_any (n ||| r) P _ hP2).mono ?_
    rintro e w' ⟨rfl, rfl⟩
    by_cases h2 : n ||| r < 2 ^ P
    · rw [decide_eq_true h2]
      by_cases h3 : len ≤ 8
      · go_wp2_with fail
        go_loopw [45] (fun i wr => ∃ k : Nat, k ≤ len ∧ i = .int .i64 k ∧ (∀ (j : Nat) (c : Nat × Int), j < k → l[j]? = some c → cmdRight P R c = true) ∧ Below w.heap.size w wr) (fun i _ => len - (intOf i).toNat)
        case atStart => exact ⟨0, by omega, rfl, fun j c h => by omega, (below2' _ _ _).drew⟩
        case round =>
          obtain ⟨k, hk, rfl, hall, hB⟩ := hrel
          have HA := Lib.hid hall
          clear hall
          by_cases hlt : k < len
          · obtain ⟨b, off, c, m, rfl, g1, l1, i1, c1, c2⟩ := (hc.below hB).at (i := k) (by rw [HL.out]; exact hlt)
            have G1 := Lib.hid g1
            clear g1
            have d1 : (0 : Int) ≤ k := by omega
            have x1 := World.block_lt_of_cell? _ _ c1
            have hnext : cmdRight P R (c, m) = true → Hid (∀ (j : Nat) (c : Nat × Int), j < k + 1 → l[j]? = some c → cmdRight P R c = true) := fun h => Lib.hid (fun j c' hj hc' => by
              by_cases hjk : j = k
              · subst hjk; rw [G1.out] at hc'; cases hc'; exact h
              · exact HA.out j c' (by omega) hc')
            have HX := Lib.hid hnext
            clear hnext
            by_cases e1 : c = 1
            · have q1 : ((c : Int) == 1) = true := by simp; omega
              have q2 : ((c : Int) == 2) = false := by simp; omega
              have q3 : ((c : Int) == 3) = false := by simp; omega
              by_cases b1 : 0 ≤ m
              · by_cases b2 : m < R
                · have HR := HX.out (by unfold cmdRight; exact decide_eq_true (by omega))
                  clear e1
                  go_wp2_with fail
                  go_roundw
                  case rel => exact ⟨k + 1, by omega, by go_num, HR.out, hB.alloc hB.size _⟩
                  case measure => simp [intOf]; omega
                · have HR : Hid (cmdRight P R (c, m) = false) := Lib.hid (by unfold cmdRight; exact decide_eq_false (by omega))
                  clear e1
                  go_wp2_with fail
                  go_ret
                  exact ⟨ret_bool (in_wrong4 G1.out HR.out).symm, hB.alloc hB.size _⟩
              · have HR : Hid (cmdRight P R (c, m) = false) := Lib.hid (by unfold cmdRight; exact decide_eq_false (by omega))
                clear e1
                go_wp2_with fail
                go_ret
                exact ⟨ret_bool (in_wrong4 G1.out HR.out).symm, hB.alloc hB.size _⟩
            · by_cases e2 : c = 2
              · have q1 : ((c : Int) == 1) = false := by simp; omega
                have q2 : ((c : Int) == 2) = true := by simp; omega
                have q3 : ((c : Int) == 3) = false := by simp; omega
                by_cases b1 : 0 ≤ m
                · by_cases b2 : m < R
                  · have HR := HX.out (by unfold cmdRight; exact decide_eq_true (by omega))
                    clear e1 e2
                    go_wp2_with fail
                    go_roundw
                    case rel => exact ⟨k + 1, by omega, by go_num, HR.out, hB.alloc hB.size _⟩
                    case measure => simp [intOf]; omega
                  · have HR : Hid (cmdRight P R (c, m) = false) := Lib.hid (by unfold cmdRight; exact decide_eq_false (by omega))
                    clear e1 e2
                    go_wp2_with fail
                    go_ret
                    exact ⟨ret_bool (in_wrong4 G1.out HR.out).symm, hB.alloc hB.size _⟩
                · have HR : Hid (cmdRight P R (c, m) = false) := Lib.hid (by unfold cmdRight; exact decide_eq_false (by omega))
                  clear e1 e2
                  go_wp2_with fail
                  go_ret
                  exact ⟨ret_bool (in_wrong4 G1.out HR.out).symm, hB.alloc hB.size _⟩
              · by_cases e3 : c = 3
                · have q1 : ((c : Int) == 1) = false := by simp; omega
                  have q2 : ((c : Int) == 2) = false := by simp; omega
                  have q3 : ((c : Int) == 3) = true := by simp; omega
                  by_cases b1 : 0 ≤ m
                  · by_cases b2 : m < P
                    · have HR := HX.out (by unfold cmdRight; exact decide_eq_true (by omega))
                      clear e1 e2 e3
                      go_wp2_with fail
                      go_roundw
                      case rel => exact ⟨k + 1, by omega, by go_num, HR.out, hB.alloc hB.size _⟩
                      case measure => simp [intOf]; omega
                    · have HR : Hid (cmdRight P R (c, m) = false) := Lib.hid (by unfold cmdRight; exact decide_eq_false (by omega))
                      clear e1 e2 e3
                      go_wp2_with fail
                      go_ret
                      exact ⟨ret_bool (in_wrong4 G1.out HR.out).symm, hB.alloc hB.size _⟩
                  · have HR : Hid (cmdRight P R (c, m) = false) := Lib.hid (by unfold cmdRight; exact decide_eq_false (by omega))
                    clear e1 e2 e3
                    go_wp2_with fail
                    go_ret
                    exact ⟨ret_bool (in_wrong4 G1.out HR.out).symm, hB.alloc hB.size _⟩
                · have q1 : ((c : Int) == 1) = false := by simp; omega
                  have q2 : ((c : Int) == 2) = false := by simp; omega
                  have q3 : ((c : Int) == 3) = false := by simp; omega
                  have HR : Hid (cmdRight P R (c, m) = false) := Lib.hid (by unfold cmdRight; exact decide_eq_false (by omega))
                  clear e1 e2 e3
                  by_cases b1 : 0 ≤ m
                  · go_wp2_with fail
                    go_ret
                    exact ⟨ret_bool (in_wrong4 G1.out HR.out).symm, hB.alloc hB.size _⟩
                  · go_wp2_with fail
                    go_ret
                    exact ⟨ret_bool (in_wrong4 G1.out HR.out).symm, hB.alloc hB.size _⟩
          · obtain rfl : k = len := by omega
            go_wp2_with fail
            go_ret
            exact ⟨ret_bool (in_right h1 h2 (by rw [HL.out]; exact h3) (fun j c hj => HA.out j c (by rw [← HL.out]; exact (List.getElem?_eq_some_iff.1 hj).1) hj)).symm, hB⟩
      · go_wp2_with fail
        go_ret
        exact ⟨ret_bool (in_wrong3 (by rw [HL.out]; exact h3)).symm, (below2' _ _ _).drew⟩
    · rw [decide_eq_false h2]
      go_wp2_with fail
      go_ret
      exact ⟨ret_bool (in_wrong2 h2).symm, (below2' _ _ _).drew⟩
  · rw [decide_eq_false h1]
    go_wp2_with fail
    go_ret
    exact ⟨ret_bool (in_wrong1 h1).symm, (below2' _ _ _).drew⟩
end Go.Proofs.Ytgepflelaemmnaa
