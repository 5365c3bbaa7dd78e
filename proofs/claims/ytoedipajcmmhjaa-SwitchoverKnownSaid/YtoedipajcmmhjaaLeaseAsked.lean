/-
  Walks of package lease and of the document's answer for chapter 23: what may be asked.
-/
import Derived.Test.YtoedipajcmmhjaaLeaseBook
namespace Go.Proofs.Ytoedipajcmmhjaa
open Go.RowKit
attribute [local irreducible] inB inL rightB okB ofR askR renewR giveR

def askedR (E H U p : Int) (l : List Int) : Int := if okB E H U p l then 0 else 2
theorem okB_is (E H U p : Int) (l : List Int) : okB E H U p l = (rightB E H U && inL 1 [p] && inL 1099511627776 l) := by
  have e : decide (p = 0 ∨ p = 1) = inL 1 [p] := by
    rw [inL_one, Bool.eq_iff_iff]
    simp only [inB, decide_eq_true_eq]
    omega
  unfold okB
  rw [e]
attribute [local irreducible] askedR
set_option maxHeartbeats 2000000 in
theorem asked_any (E H U p : Int) (l : List Int) (b n cap : Nat) (w : World) (hH1 : -9223372036854775808 ≤ H) (hH2 : H ≤ 9223372036854775807) (hn : l.length = n) (hnl : n ≤ 10) (hl : NumsAt w b l) :
    Calls Try.prog 31 #[.agg #[.int .i64 E, .int .i64 H, .int .i64 U], .int .i64 p, .slice (some ⟨b, 0, none⟩) n cap] w fun e w' => e = .returned (.int .i64 (askedR E H U p l)) ∧ Below w.heap.size w w' := by
  obtain ⟨A, hA⟩ : ∃ A, rightB E H U = A := ⟨_, rfl⟩
  obtain ⟨C, hC⟩ : ∃ C, inL 1 [p] = C := ⟨_, rfl⟩
  obtain ⟨D, hD⟩ : ∃ D, inL 1099511627776 l = D := ⟨_, rfl⟩
  have hR : askedR E H U p l = if (A && C && D) then 0 else 2 := by unfold askedR; rw [okB_is, hA, hC, hD]
  have HA := Lib.hid hA
  have HC := Lib.hid hC
  have HD := Lib.hid hD
  have HR := Lib.hid hR
  have HN := Lib.hid hn
  clear hA hC hD hR hn
  have hb0 := below1 w (Obj.cells #[Value.int IntKind.i64 E, Value.int IntKind.i64 H, Value.int IntKind.i64 U] 31)
  cases A with
  | false =>
    go_enter Try.func31, Try.ntmps31
    go_wp2_with fail
    refine (right_any E H U _ hH1 hH2).mono ?_
    rintro e w1 ⟨rfl, hb1⟩
    rw [HA.out]
    go_wp2_with fail
    go_ret
    rw [HR.out]
    exact ⟨rfl, below_on hb0 hb1⟩
  | true =>
  have key : ∀ w1 : World, Below (w.alloc (Obj.cells #[Value.int IntKind.i64 E, Value.int IntKind.i64 H, Value.int IntKind.i64 U] 31)).heap.size (w.alloc (Obj.cells #[Value.int IntKind.i64 E, Value.int IntKind.i64 H, Value.int IntKind.i64 U] 31)) w1 → Below w.heap.size w (w1.alloc (Obj.cells #[Value.int IntKind.i64 p] 2)) := fun w1 h => below_on (below_on hb0 h) (below1 _ _)
  have hk : ∀ w1 : World, NumsAt (w1.alloc (Obj.cells #[Value.int IntKind.i64 p] 2)) w1.heap.size [p] := fun w1 => one_at w1 p _
  have HK := Lib.hid hk
  have HE := Lib.hid key
  clear key hk
  cases C with
  | false =>
    go_enter Try.func31, Try.ntmps31
    go_wp2_with fail
    refine (right_any E H U _ hH1 hH2).mono ?_
    rintro e w1 ⟨rfl, hb1⟩
    rw [HA.out]
    go_wp2_with fail
    refine (in_is false 1 [p] _ 1 _ _ HC.out rfl (by omega) (HK.out w1)).mono ?_
    rintro e w' ⟨rfl, rfl⟩
    go_wp2_with fail
    go_ret
    rw [HR.out]
    exact ⟨rfl, HE.out _ hb1⟩
  | true =>
  cases D
  all_goals
    go_enter Try.func31, Try.ntmps31
    go_wp2_with fail
    refine (right_any E H U _ hH1 hH2).mono ?_
    rintro e w1 ⟨rfl, hb1⟩
    rw [HA.out]
    go_wp2_with fail
    refine (in_is true 1 [p] _ 1 _ _ HC.out rfl (by omega) (HK.out w1)).mono ?_
    rintro e w' ⟨rfl, rfl⟩
    go_wp2_with fail
    refine (in_is _ 1099511627776 l _ n _ _ HD.out HN.out hnl (hl.below (HE.out _ hb1))).mono ?_
    rintro e w' ⟨rfl, rfl⟩
    go_wp2_with fail
    go_ret
    rw [HR.out]
    exact ⟨rfl, HE.out _ hb1⟩
theorem asked_is (r E H U p : Int) (l : List Int) (b n cap : Nat) (w : World) (hH1 : -9223372036854775808 ≤ H) (hH2 : H ≤ 9223372036854775807) (hr : askedR E H U p l = r) (hn : l.length = n) (hnl : n ≤ 10) (hl : NumsAt w b l) :
    Calls Try.prog 31 #[.agg #[.int .i64 E, .int .i64 H, .int .i64 U], .int .i64 p, .slice (some ⟨b, 0, none⟩) n cap] w fun e w' => e = .returned (.int .i64 r) ∧ Below w.heap.size w w' := hr ▸ asked_any E H U p l b n cap w hH1 hH2 hn hnl hl

theorem okB_zero (E H U p n : Int) : okB E H U p [n, 0] = okB E H U p [n] := by
  unfold okB
  rw [inL_two, inL_one, show inB 1099511627776 0 = true by unfold inB; decide, Bool.and_true]
set_option maxHeartbeats 2000000 in
theorem of_any (E H U p n : Int) (w : World) :
    Calls Try.prog 32 #[.agg #[.int .i64 E, .int .i64 H, .int .i64 U], .int .i64 p, .int .i64 n] w fun e w' => e = .returned (.int .i64 (ofR E H p n)) ∧ Below w.heap.size w w' := by
  by_cases h1 : n < E
  · have HR : Hid (ofR E H p n = 230) := Lib.hid (by simp [ofR, h1])
    go_enter Try.func32, Try.ntmps32
    go_wp2_with fail
    go_ret
    rw [HR.out]
    exact ⟨rfl, below1 _ _⟩
  have d1 : decide (n < E) = false := decide_eq_false h1
  by_cases h2 : E < n
  · have HR : Hid (ofR E H p n = 231) := Lib.hid (by simp [ofR, h1, h2])
    go_enter Try.func32, Try.ntmps32
    go_wp2_with fail
    go_ret
    rw [HR.out]
    exact ⟨rfl, below1 _ _⟩
  have d2 : decide (E < n) = false := decide_eq_false h2
  by_cases h3 : p = H
  · have HR : Hid (ofR E H p n = 0) := Lib.hid (by simp [ofR, h1, h2, h3])
    have d3 : (p == H) = true := by simpa using h3
    have d4 : (p != H) = false := by simpa using h3
    clear h3
    go_enter Try.func32, Try.ntmps32
    go_wp2_with fail
    go_ret
    rw [HR.out]
    exact ⟨rfl, below1 _ _⟩
  · have HR : Hid (ofR E H p n = 231) := Lib.hid (by simp [ofR, h1, h2, h3])
    have d3 : (p == H) = false := by simpa using h3
    have d4 : (p != H) = true := by simpa using h3
    clear h3
    go_enter Try.func32, Try.ntmps32
    go_wp2_with fail
    go_ret
    rw [HR.out]
    exact ⟨rfl, below1 _ _⟩
theorem of_is (r E H U p n : Int) (w : World) (hr : ofR E H p n = r) :
    Calls Try.prog 32 #[.agg #[.int .i64 E, .int .i64 H, .int .i64 U], .int .i64 p, .int .i64 n] w fun e w' => e = .returned (.int .i64 r) ∧ Below w.heap.size w w' := hr ▸ of_any E H U p n w
end Go.Proofs.Ytoedipajcmmhjaa
