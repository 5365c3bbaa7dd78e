/-
  Layer 06, plainly: which pairs conflict.
-/
import Derived.Test.YtjienmjpfklgeaaCoA
import Derived.Test.YtjienmjpfklgeaaMC
namespace Go.Proofs.Ytjienmjpfklgeaa
open Go.RowKit
set_option maxRecDepth 100000
/-- do the routes of two numbers conflict? -/
def pairS (L : Lay) (a b : Int) : Bool :=
  decide (0 ≤ a ∧ 0 ≤ b ∧ a < L.rt.l.length ∧ b < L.rt.l.length ∧ a ≠ b) && (mayS L && (match L.rt.l[a.toNat]?, L.rt.l[b.toNat]? with | some x, some y => conflictS L x y | _, _ => false))
theorem ps_no {L : Lay} {a b : Int} (h : ¬ (0 ≤ a ∧ 0 ≤ b ∧ a < L.rt.l.length ∧ b < L.rt.l.length ∧ a ≠ b)) : pairS L a b = false := by unfold pairS; rw [decide_eq_false h]; rfl
theorem ps_may {L : Lay} {a b : Int} (h : mayS L = false) : pairS L a b = false := by unfold pairS; rw [h]; simp
theorem ps_at {L : Lay} {i k : Nat} {x y : Rt} (hm : mayS L = true) (hi : L.rt.l[i]? = some x) (hk : L.rt.l[k]? = some y) (hne : i ≠ k) : pairS L i k = conflictS L x y := by
  have h1 := (List.getElem?_eq_some_iff.1 hi).1
  have h2 := (List.getElem?_eq_some_iff.1 hk).1
  unfold pairS
  rw [decide_eq_true (by omega), hm, Int.toNat_natCast, Int.toNat_natCast, hi, hk]
  rfl
theorem ps_comm (L : Lay) (a b : Int) : pairS L a b = pairS L b a := by
  unfold pairS
  rw [show (decide (0 ≤ a ∧ 0 ≤ b ∧ a < L.rt.l.length ∧ b < L.rt.l.length ∧ a ≠ b)) = decide (0 ≤ b ∧ 0 ≤ a ∧ b < L.rt.l.length ∧ a < L.rt.l.length ∧ b ≠ a) by rw [decide_eq_decide]; omega]
  congr 2
  rcases L.rt.l[a.toNat]? with _ | x <;> rcases L.rt.l[b.toNat]? with _ | y <;> first | rfl | exact conflict_comm L x y
theorem mayS_small {L : Lay} (h : mayS L = true) : L.se.l.length ≤ 64 ∧ L.po.l.length ≤ 32 ∧ L.sg.l.length ≤ 32 ∧ L.rt.l.length ≤ 64 := by
  by_cases hs : L.se.l.length ≤ 64 ∧ L.po.l.length ≤ 32 ∧ L.sg.l.length ≤ 32 ∧ L.rt.l.length ≤ 64
  · exact hs
  · rw [may_big (small_no hs)] at h
    cases h
end Go.Proofs.Ytjienmjpfklgeaa
