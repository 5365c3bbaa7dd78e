/-
  Walks of package lease and of the document's answer for chapter 23: books.
-/
import Derived.Test.YtoedipajcmmhjaaLease
import Derived.IntWalk
namespace Go.Proofs.Ytoedipajcmmhjaa
open Go.RowKit

/-- may a book be? -/
def rightB (E H U : Int) : Bool := decide (0 ≤ E ∧ E ≤ 1099511627776 ∧ -1 ≤ H ∧ H ≤ 1 ∧ 0 ≤ U ∧ U ≤ 1099511627784 ∧ (0 < E ∨ H = -1))
/-- may be asked? -/
def okB (E H U p : Int) (l : List Int) : Bool := rightB E H U && decide (p = 0 ∨ p = 1) && inL 1099511627776 l
/-- a book, a grant, an error -/
structure R6 where
  e : Int
  h : Int
  u : Int
  ge : Int
  gu : Int
  er : Int
deriving DecidableEq
def ofR (E H p n : Int) : Int := if n < E then 230 else if E < n ∨ p ≠ H then 231 else 0
def askR (E H U p t : Int) : R6 := if okB E H U p [t] then (if H = 1 - p ∧ t ≤ U then ⟨E, H, U, 0, 0, 231⟩ else if E = 1099511627776 then ⟨E, H, U, 0, 0, 3⟩ else ⟨E + 1, p, t + 8, E + 1, t + 8, 0⟩) else ⟨E, H, U, 0, 0, 2⟩
def renewR (E H U p n t : Int) : R6 := if okB E H U p [n, t] then (if ofR E H p n ≠ 0 then ⟨E, H, U, 0, 0, ofR E H p n⟩ else if U < t then ⟨E, H, U, 0, 0, 231⟩ else ⟨E, H, max U (t + 8), E, max U (t + 8), 0⟩) else ⟨E, H, U, 0, 0, 2⟩
def giveR (E H U p n : Int) : R6 := if okB E H U p [n] then (if ofR E H p n ≠ 0 then ⟨E, H, U, 0, 0, ofR E H p n⟩ else ⟨E, -1, U, 0, 0, 0⟩) else ⟨E, H, U, 0, 0, 2⟩
theorem rightB_true {E H U : Int} (h : rightB E H U = true) : 0 ≤ E ∧ E ≤ 1099511627776 ∧ -1 ≤ H ∧ H ≤ 1 ∧ 0 ≤ U ∧ U ≤ 1099511627784 ∧ (0 < E ∨ H = -1) := of_decide_eq_true h
theorem okB_true {E H U p : Int} {l : List Int} (h : okB E H U p l = true) : rightB E H U = true ∧ (p = 0 ∨ p = 1) ∧ inL 1099511627776 l = true := by
  unfold okB at h
  simpa [Bool.and_eq_true, and_assoc] using h
theorem inL_one (m x : Int) : inL m [x] = inB m x := by unfold inL; simp
theorem inL_two (m x y : Int) : inL m [x, y] = (inB m x && inB m y) := by unfold inL; simp
theorem inB_true {m x : Int} (h : inB m x = true) : 0 ≤ x ∧ x ≤ m := of_decide_eq_true h
theorem wrap_next (H : Int) (h1 : -9223372036854775808 ≤ H) (h2 : H ≤ 9223372036854775807) : inB 2 (IntKind.i64.wrap (H + 1)) = decide (-1 ≤ H ∧ H ≤ 1) := by
  rw [IntKind.wrap_i64, Bool.eq_iff_iff]
  simp only [inB, decide_eq_true_eq]
  omega
theorem right_split (E H U : Int) : rightB E H U = (inB 1099511627776 E && inB 1099511627784 U && decide (-1 ≤ H ∧ H ≤ 1) && (decide (0 < E) || decide (H < 0))) := by
  rw [Bool.eq_iff_iff]
  simp only [rightB, inB, Bool.and_eq_true, Bool.or_eq_true, decide_eq_true_eq]
  omega
theorem right_split' (E H U : Int) : rightB E H U = (inB 1099511627776 E && decide (-1 ≤ H) && decide (H ≤ 1) && inB 1099511627784 U && (decide (0 < E) || (H == -1))) := by
  rw [Bool.eq_iff_iff]
  simp only [rightB, inB, Bool.and_eq_true, Bool.or_eq_true, decide_eq_true_eq, beq_iff_eq]
  omega
attribute [local irreducible] inB inL rightB okB ofR askR renewR giveR

theorem in_is (B : Bool) (most : Int) (l : List Int) (b n cap : Nat) (w : World) (hB : inL most l = B) (hn : l.length = n) (hnl : n ≤ 10) (hl : NumsAt w b l) :
    Calls Try.prog 33 #[.int .i64 most, .slice (some ⟨b, 0, none⟩) n cap] w fun e w' => e = .returned (.bool B) ∧ w = w' := hB ▸ in_any most l b n cap w hn hnl hl
theorem rin_is (B : Bool) (n most : Int) (w : World) (hB : inB most n = B) : Calls Try.prog 40 #[.int .i64 n, .int .i64 most] w fun e w' => e = .returned (.bool B) ∧ w = w' := hB ▸ rin_any n most w
theorem alloc4' (w : World) (A B C D : Obj) : ((((w.alloc A).alloc B).alloc C).alloc D).heap[w.heap.size]? = some A ∧ ((((w.alloc A).alloc B).alloc C).alloc D).heap[w.heap.size + 1]? = some B ∧ ((((w.alloc A).alloc B).alloc C).alloc D).heap[w.heap.size + 1 + 1]? = some C ∧ ((((w.alloc A).alloc B).alloc C).alloc D).heap[w.heap.size + 1 + 1 + 1]? = some D := alloc4 w A B C D (Below.refl _ _)
theorem one_at (w : World) (x : Int) (t : TypeId) : NumsAt (w.alloc (Obj.cells #[Value.int IntKind.i64 x] t)) w.heap.size [x] :=
  nums_lit [x] rfl (alloc1 w _ (Below.refl _ _))
theorem two_at (w : World) (x y : Int) (t : TypeId) : NumsAt (w.alloc (Obj.cells #[Value.int IntKind.i64 x, Value.int IntKind.i64 y] t)) w.heap.size [x, y] :=
  nums_lit [x, y] rfl (alloc1 w _ (Below.refl _ _))

set_option maxHeartbeats 2000000 in
theorem right_any (E H U : Int) (w : World) (hH1 : -9223372036854775808 ≤ H) (hH2 : H ≤ 9223372036854775807) : Calls Try.prog 39 #[.agg #[.int .i64 E, .int .i64 H, .int .i64 U]] w fun e w' => e = .returned (.bool (rightB E H U)) ∧ Below w.heap.size w w' := by
  obtain ⟨A, hA⟩ : ∃ A, inL 1099511627776 [E] = A := ⟨_, rfl⟩
  obtain ⟨B, hB⟩ : ∃ B, inL 1099511627784 [U] = B := ⟨_, rfl⟩
  obtain ⟨C, hC⟩ : ∃ C, inL 2 [wrap64 (H + 1)] = C := ⟨_, rfl⟩
  have hR : rightB E H U = (A && B && C && (decide (0 < E) || decide (H < 0))) := by
    have e := wrap_next H hH1 hH2
    rw [right_split, ← hA, ← hB, ← hC, inL_one, inL_one, inL_one, ← IntWalk.i64_left, e]
  have HA := Lib.hid hA
  have HB := Lib.hid hB
  have HC := Lib.hid hC
  have HR := Lib.hid hR
  clear hA hB hC hR hH1 hH2
  have b1 := below1 w (Obj.cells #[Value.int IntKind.i64 E, Value.int IntKind.i64 H, Value.int IntKind.i64 U] 31)
  cases A with
  | false =>
    go_enter Try.func39, Try.ntmps39
    go_wp2_with fail
    refine (in_is false 1099511627776 [E] _ 1 _ _ HA.out rfl (by omega) (nums_lit _ rfl (alloc2' w _ _).2)).mono ?_
    rintro e w' ⟨rfl, rfl⟩
    go_wp2_with fail
    go_ret
    rw [HR.out]
    exact ⟨rfl, below_on b1 (below1 _ _)⟩
  | true =>
  cases B with
  | false =>
    go_enter Try.func39, Try.ntmps39
    go_wp2_with fail
    refine (in_is true 1099511627776 [E] _ 1 _ _ HA.out rfl (by omega) (nums_lit _ rfl (alloc2' w _ _).2)).mono ?_
    rintro e w' ⟨rfl, rfl⟩
    go_wp2_with fail
    refine (in_is false 1099511627784 [U] _ 1 _ _ HB.out rfl (by omega) (nums_lit _ rfl (alloc3' w _ _ _).2.2)).mono ?_
    rintro e w' ⟨rfl, rfl⟩
    go_wp2_with fail
    go_ret
    rw [HR.out]
    exact ⟨rfl, below_on (below_on b1 (below1 _ _)) (below1 _ _)⟩
  | true =>
  cases C with
  | false =>
    go_enter Try.func39, Try.ntmps39
    go_wp2_with fail
    refine (in_is true 1099511627776 [E] _ 1 _ _ HA.out rfl (by omega) (nums_lit _ rfl (alloc2' w _ _).2)).mono ?_
    rintro e w' ⟨rfl, rfl⟩
    go_wp2_with fail
    refine (in_is true 1099511627784 [U] _ 1 _ _ HB.out rfl (by omega) (nums_lit _ rfl (alloc3' w _ _ _).2.2)).mono ?_
    rintro e w' ⟨rfl, rfl⟩
    go_wp2_with fail
    refine (in_is false 2 [wrap64 (H + 1)] _ 1 _ _ HC.out rfl (by omega) (nums_lit _ rfl (alloc4' w _ _ _ _).2.2.2)).mono ?_
    rintro e w' ⟨rfl, rfl⟩
    go_wp2_with fail
    go_ret
    rw [HR.out]
    exact ⟨rfl, below_on (below_on (below_on b1 (below1 _ _)) (below1 _ _)) (below1 _ _)⟩
  | true =>
    go_enter Try.func39, Try.ntmps39
    go_wp2_with fail
    refine (in_is true 1099511627776 [E] _ 1 _ _ HA.out rfl (by omega) (nums_lit _ rfl (alloc2' w _ _).2)).mono ?_
    rintro e w' ⟨rfl, rfl⟩
    go_wp2_with fail
    refine (in_is true 1099511627784 [U] _ 1 _ _ HB.out rfl (by omega) (nums_lit _ rfl (alloc3' w _ _ _).2.2)).mono ?_
    rintro e w' ⟨rfl, rfl⟩
    go_wp2_with fail
    refine (in_is true 2 [wrap64 (H + 1)] _ 1 _ _ HC.out rfl (by omega) (nums_lit _ rfl (alloc4' w _ _ _ _).2.2.2)).mono ?_
    rintro e w' ⟨rfl, rfl⟩
    go_wp2_with fail
    all_goals
      go_ret
      rw [HR.out]
      exact ⟨by simp [*], below_on (below_on (below_on b1 (below1 _ _)) (below1 _ _)) (below1 _ _)⟩

end Go.Proofs.Ytoedipajcmmhjaa
