/-
  Walks of package inputs and of the document's answer for chapter 9: which inputs are the same.
-/
import Derived.Test.YtbbacmlcimgjbaaInCmds
namespace Go.Proofs.Ytbbacmlcimgjbaa
open Go.RowKit

set_option maxHeartbeats 400000 in
theorem samecmds_any (a b : Option Addr) (la lb : List (Nat × Int)) (n m ca cb : Nat) (w : World) (hn : la.length = n) (hm : lb.length = m) (hnl : n ≤ 1000) (hml : m ≤ 1000) (ha : CmdsAt w a la) (hb : CmdsAt w b lb) :
    Calls Try.prog 31 #[.slice a n ca, .slice b m cb] w fun e w' => e = .returned (.bool (decide (la = lb))) ∧ Below w.heap.size w w' := by
  have nq := neq_cmd
  have cg := cmd_guard
  have HN := Lib.hid hn
  have HM := Lib.hid hm
  clear hn hm
  by_cases hlen : n = m
  · subst hlen
    go_enter Try.func31, Try.ntmps31
    go_wp2
    go_loopw [5] (fun i wr => ∃ k : Nat, k ≤ n ∧ i = .int .i64 k ∧ la.take k = lb.take k ∧ Below w.heap.size w wr) (fun i _ => n - (intOf i).toNat)
    case atStart => exact ⟨0, by omega, rfl, rfl, Below.refl _ _⟩
    case round =>
      obtain ⟨k, hk, rfl, heq, hB⟩ := hrel
      have HE := Lib.hid heq
      clear heq
      by_cases hlt : k < n
      · obtain ⟨b1, o1, k1, n1, rfl, g1, l1, i1, c1, c1'⟩ := (ha.below hB).at (i := k) (by rw [HN.out]; exact hlt)
        obtain ⟨b2, o2, k2, n2, rfl, g2, l2, i2, c2, c2'⟩ := (hb.below hB).at (i := k) (by rw [HM.out]; exact hlt)
        have G1 := Lib.hid g1
        have G2 := Lib.hid g2
        clear g1 g2
        have x1 := World.block_lt_of_cell? _ _ c1
        have x2 := World.block_lt_of_cell? _ _ c2
        have d1 : (0 : Int) ≤ k := by omega
        have d2 : (k : Int) < n := by omega
        go_wp2_with fail
        first
          | (go_quiet (fail); go_wp2_with fail)
          | skip
        · have ht : (!(k1 : Int) == (k2 : Int)) = true ∨ (!n1 == n2) = true := by assumption
          go_ret
          exact ⟨ret_bool (cmd_diff G1.out G2.out ht).symm, below_drewN hB _⟩
        · have ht : (!(k1 : Int) == (k2 : Int)) = false ∧ (!n1 == n2) = false := by assumption
          go_roundw
          case rel => exact ⟨k + 1, by omega, by go_num, cmd_same G1.out G2.out ht HE.out, below_drewN hB _⟩
          case measure => simp [intOf]; omega
      · obtain rfl : k = n := by omega
        go_wp2_with fail
        go_ret
        exact ⟨ret_bool (cmd_all HN.out HM.out HE.out).symm, hB⟩
  · have h1 : ((n : Int) == (m : Int)) = false := by simp; omega
    have h2 : ((n : Int) != (m : Int)) = true := by simp; omega
    go_enter Try.func31, Try.ntmps31
    go_wp2
    go_ret
    exact ⟨ret_bool (cmd_len HN.out HM.out hlen).symm, Below.refl _ _⟩

/-- an input, as a struct's value -/
def inVal (o n r : Nat) (a : Option Addr) (len cap : Nat) : Value := .agg #[.int .u64 (o : Int), .int .u32 (n : Int), .int .u32 (r : Int), .slice a len cap]

set_option maxHeartbeats 1000000 in
theorem same_any (o1 n1 r1 o2 n2 r2 : Nat) (a b : Option Addr) (la lb : List (Nat × Int)) (n m ca cb : Nat) (w : World) (hn : la.length = n) (hm : lb.length = m) (hnl : n ≤ 1000) (hml : m ≤ 1000) (ha : CmdsAt w a la) (hb : CmdsAt w b lb) :
    Calls Try.prog 28 #[.agg #[.int .u64 (o1 : Int), .int .u32 (n1 : Int), .int .u32 (r1 : Int), .slice a n ca], .agg #[.int .u64 (o2 : Int), .int .u32 (n2 : Int), .int .u32 (r2 : Int), .slice b m cb]] w
      fun e w' => e = .returned (.bool (decide (o1 = o2 ∧ n1 = n2 ∧ r1 = r2 ∧ la = lb))) ∧ Below w.heap.size w w' := by
  have HN := Lib.hid hn
  have HM := Lib.hid hm
  clear hn hm
  go_enter Try.func28, Try.ntmps28
  go_wp2_with fail
  · have e1 : o1 = o2 := Int.ofNat.inj ‹(o1 : Int) = (o2 : Int)›
    have e2 : n1 = n2 := Int.ofNat.inj ‹(n1 : Int) = (n2 : Int)›
    have e3 : r1 = r2 := Int.ofNat.inj ‹(r1 : Int) = (r2 : Int)›
    refine (alike_any a b la lb n m ca cb _ HN.out HM.out hnl hml (ha.below (below2' _ _ _)) (hb.below (below2' _ _ _))).mono ?_
    rintro e w1 ⟨rfl, hb1⟩
    have hb1 := below_on (below2' _ _ _) hb1
    go_wp2_with fail
    go_ret
    exact ⟨ret_bool (by simp [e1, e2, e3]), hb1⟩
  · have e3 : ¬ (r1 : Int) = (r2 : Int) := by assumption
    go_ret
    exact ⟨ret_bool (decide_eq_false (fun h => e3 (by rw [h.2.2.1]))).symm, below2' _ _ _⟩
  · have e2 : ¬ (n1 : Int) = (n2 : Int) := by assumption
    go_ret
    exact ⟨ret_bool (decide_eq_false (fun h => e2 (by rw [h.2.1]))).symm, below2' _ _ _⟩
  · have e1 : ¬ (o1 : Int) = (o2 : Int) := by assumption
    go_ret
    exact ⟨ret_bool (decide_eq_false (fun h => e1 (by rw [h.1]))).symm, below2' _ _ _⟩

set_option maxHeartbeats 1000000 in
theorem refsame_any (o1 n1 r1 o2 n2 r2 : Nat) (a b : Option Addr) (la lb : List (Nat × Int)) (n m ca cb : Nat) (w : World) (hn : la.length = n) (hm : lb.length = m) (hnl : n ≤ 1000) (hml : m ≤ 1000) (ha : CmdsAt w a la) (hb : CmdsAt w b lb) :
    Calls Try.prog 22 #[.agg #[.int .u64 (o1 : Int), .int .u32 (n1 : Int), .int .u32 (r1 : Int), .slice a n ca], .agg #[.int .u64 (o2 : Int), .int .u32 (n2 : Int), .int .u32 (r2 : Int), .slice b m cb]] w
      fun e w' => e = .returned (.bool (decide (o1 = o2 ∧ n1 = n2 ∧ r1 = r2 ∧ la = lb))) ∧ Below w.heap.size w w' := by
  have HN := Lib.hid hn
  have HM := Lib.hid hm
  clear hn hm
  go_enter Try.func22, Try.ntmps22
  go_wp2_with fail
  · have e1 : o1 = o2 := Int.ofNat.inj ‹(o1 : Int) = (o2 : Int)›
    have e2 : n1 = n2 := Int.ofNat.inj ‹(n1 : Int) = (n2 : Int)›
    have e3 : r1 = r2 := Int.ofNat.inj ‹(r1 : Int) = (r2 : Int)›
    refine (samecmds_any a b la lb n m ca cb _ HN.out HM.out hnl hml (ha.below (below2' _ _ _)) (hb.below (below2' _ _ _))).mono ?_
    rintro e w1 ⟨rfl, hb1⟩
    have hb1 := below_on (below2' _ _ _) hb1
    go_wp2_with fail
    go_ret
    exact ⟨ret_bool (by simp [e1, e2, e3]), hb1⟩
  · have e3 : ¬ (r1 : Int) = (r2 : Int) := by assumption
    go_ret
    exact ⟨ret_bool (decide_eq_false (fun h => e3 (by rw [h.2.2.1]))).symm, below2' _ _ _⟩
  · have e2 : ¬ (n1 : Int) = (n2 : Int) := by assumption
    go_ret
    exact ⟨ret_bool (decide_eq_false (fun h => e2 (by rw [h.2.1]))).symm, below2' _ _ _⟩
  · have e1 : ¬ (o1 : Int) = (o2 : Int) := by assumption
    go_ret
    exact ⟨ret_bool (decide_eq_false (fun h => e1 (by rw [h.1]))).symm, below2' _ _ _⟩

end Go.Proofs.Ytbbacmlcimgjbaa
