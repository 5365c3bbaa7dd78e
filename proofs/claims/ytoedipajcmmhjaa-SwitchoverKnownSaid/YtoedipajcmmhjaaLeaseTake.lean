/-
  Walks of package lease: New, Take, Holds.
-/
import Derived.Test.YtoedipajcmmhjaaLeaseAsked
namespace Go.Proofs.Ytoedipajcmmhjaa
open Go.RowKit
attribute [local irreducible] inB inL rightB okB ofR askR renewR giveR askedR

theorem new_any (w : World) : Calls Try.prog 7 #[] w fun e w' => e = .returned (.agg #[.int .i64 0, .int .i64 (-1), .int .i64 0]) ∧ Below w.heap.size w w' := by
  go_enter Try.func7, Try.ntmps7
  go_wp2
  exact bodyPost_ret (v := .agg #[.int .i64 0, .int .i64 (-1), .int .i64 0]) (by simp [results, Try.results7, go_sem]) rfl ⟨rfl, below1 _ _⟩
/-- may a tenant act? -/
def holdsB (ge gu t : Int) : Bool := decide (0 < ge) && decide (t ≤ gu - 2)
attribute [local irreducible] holdsB
theorem holds_any (p ge gu t : Int) (w : World) (h : -9223372036854775806 ≤ gu) (h2 : gu ≤ 9223372036854775807) :
    Calls Try.prog 24 #[.agg #[.int .i64 p, .int .i64 ge, .int .i64 gu], .int .i64 t] w fun e w' => e = .returned (.bool (holdsB ge gu t)) ∧ Below w.heap.size w w' := by
  have hw : wrap64 (gu - 2) = gu - 2 := by unfold wrap64; omega
  have HR : Hid (holdsB ge gu t = (decide (0 < ge) && decide (t ≤ gu - 2))) := Lib.hid (by unfold holdsB; rfl)
  clear h h2
  obtain ⟨A, hA⟩ : ∃ A, decide (0 < ge) = A := ⟨_, rfl⟩
  obtain ⟨B, hB⟩ : ∃ B, decide (t ≤ gu - 2) = B := ⟨_, rfl⟩
  rw [hA, hB] at HR
  cases A <;> cases B
  all_goals
    go_enter Try.func24, Try.ntmps24
    go_wp2_with fail
    go_ret
    rw [HR.out]
    exact ⟨rfl, below1 _ _⟩
/-- a tenant's grant and an answer -/
structure R3 where
  ge : Int
  gu : Int
  er : Int
def takeR (ge gu a b : Int) : R3 := if inL 1099511627784 [a, b] then (if a < ge then ⟨ge, gu, 230⟩ else if a = ge then ⟨a, max b gu, 0⟩ else ⟨a, b, 0⟩) else ⟨ge, gu, 2⟩
attribute [local irreducible] takeR

set_option maxHeartbeats 4000000 in
theorem take_any (p ge gu a b : Int) (w : World) :
    Calls Try.prog 25 #[.agg #[.int .i64 p, .int .i64 ge, .int .i64 gu], .agg #[.int .i64 a, .int .i64 b]] w
      fun e w' => e = .returned (.tuple #[.agg #[.int .i64 p, .int .i64 (takeR ge gu a b).ge, .int .i64 (takeR ge gu a b).gu], .int .i64 (takeR ge gu a b).er]) ∧ Below w.heap.size w w' := by
  cases hi : inL 1099511627784 [a, b] with
  | false =>
    have HI := Lib.hid hi
    have HP : Hid (takeR ge gu a b = ⟨ge, gu, 2⟩) := Lib.hid (by unfold takeR; rw [if_neg (by rw [hi]; decide)])
    clear hi
    have kA := alloc4' w (Obj.cells #[Value.int IntKind.i64 p, Value.int IntKind.i64 ge, Value.int IntKind.i64 gu] 49) (Obj.cells #[Value.int IntKind.i64 a, Value.int IntKind.i64 b] 43) (Obj.cells #[Value.int IntKind.i64 0, Value.int IntKind.i64 0, Value.int IntKind.i64 0] 49) (Obj.cells #[Value.int IntKind.i64 a, Value.int IntKind.i64 b] 2)
    have bB := below4 w (Obj.cells #[Value.int IntKind.i64 p, Value.int IntKind.i64 ge, Value.int IntKind.i64 gu] 49) (Obj.cells #[Value.int IntKind.i64 a, Value.int IntKind.i64 b] 43) (Obj.cells #[Value.int IntKind.i64 0, Value.int IntKind.i64 0, Value.int IntKind.i64 0] 49) (Obj.cells #[Value.int IntKind.i64 a, Value.int IntKind.i64 b] 2)
    go_enter Try.func25, Try.ntmps25
    go_wp2_with fail
    refine (in_is false 1099511627784 [a, b] _ 2 _ _ HI.out rfl (by omega) (nums_lit _ rfl kA.2.2.2)).mono ?_
    rintro e w' ⟨rfl, rfl⟩
    go_wp2_with fail
    refine bodyPost_ret (v := .tuple #[.agg #[.int .i64 p, .int .i64 ge, .int .i64 gu], .int .i64 2]) (by simp [results, Try.results25, go_sem, *]) rfl ?_
    refine ⟨by rw [HP.out], ?_⟩
    repeat first
      | with_reducible exact bB
      | ((with_reducible refine Below.setCell ?_ ?_ _); rotate_left; (dsimp only; omega))
      | exact (((Below.refl _ _).alloc (Nat.le_refl _) _).alloc (by simp) _ |>.alloc (by simp; omega) _ |>.alloc (by simp; omega) _)
  | true =>
    have HI := Lib.hid hi
    by_cases h1 : a < ge
    · skip
      have HP : Hid (takeR ge gu a b = ⟨ge, gu, 230⟩) := Lib.hid (by unfold takeR; rw [if_pos hi, if_pos h1])
      clear hi
      have kA := alloc4' w (Obj.cells #[Value.int IntKind.i64 p, Value.int IntKind.i64 ge, Value.int IntKind.i64 gu] 49) (Obj.cells #[Value.int IntKind.i64 a, Value.int IntKind.i64 b] 43) (Obj.cells #[Value.int IntKind.i64 0, Value.int IntKind.i64 0, Value.int IntKind.i64 0] 49) (Obj.cells #[Value.int IntKind.i64 a, Value.int IntKind.i64 b] 2)
      have bB := below4 w (Obj.cells #[Value.int IntKind.i64 p, Value.int IntKind.i64 ge, Value.int IntKind.i64 gu] 49) (Obj.cells #[Value.int IntKind.i64 a, Value.int IntKind.i64 b] 43) (Obj.cells #[Value.int IntKind.i64 0, Value.int IntKind.i64 0, Value.int IntKind.i64 0] 49) (Obj.cells #[Value.int IntKind.i64 a, Value.int IntKind.i64 b] 2)
      go_enter Try.func25, Try.ntmps25
      go_wp2_with fail
      refine (in_is true 1099511627784 [a, b] _ 2 _ _ HI.out rfl (by omega) (nums_lit _ rfl kA.2.2.2)).mono ?_
      rintro e w' ⟨rfl, rfl⟩
      go_wp2_with fail
      refine bodyPost_ret (v := .tuple #[.agg #[.int .i64 p, .int .i64 ge, .int .i64 gu], .int .i64 230]) (by simp [results, Try.results25, go_sem, *]) rfl ?_
      refine ⟨by rw [HP.out], ?_⟩
      repeat first
        | with_reducible exact bB
        | ((with_reducible refine Below.setCell ?_ ?_ _); rotate_left; (dsimp only; omega))
        | exact (((Below.refl _ _).alloc (Nat.le_refl _) _).alloc (by simp) _ |>.alloc (by simp; omega) _ |>.alloc (by simp; omega) _)
    have d1 : decide (a < ge) = false := decide_eq_false h1
    by_cases h2 : a = ge
    · skip
      by_cases hm : b < gu
      · skip
        have HP : Hid (takeR ge gu a b = ⟨a, gu, 0⟩) := Lib.hid (by unfold takeR; rw [if_pos hi, if_neg h1, if_pos h2, Int.max_eq_right (by omega)])
        have d2 : (a == ge) = true := by simpa using h2
        clear hi h2
        have kA := alloc4' w (Obj.cells #[Value.int IntKind.i64 p, Value.int IntKind.i64 ge, Value.int IntKind.i64 gu] 49) (Obj.cells #[Value.int IntKind.i64 a, Value.int IntKind.i64 b] 43) (Obj.cells #[Value.int IntKind.i64 0, Value.int IntKind.i64 0, Value.int IntKind.i64 0] 49) (Obj.cells #[Value.int IntKind.i64 a, Value.int IntKind.i64 b] 2)
        have bB := below4 w (Obj.cells #[Value.int IntKind.i64 p, Value.int IntKind.i64 ge, Value.int IntKind.i64 gu] 49) (Obj.cells #[Value.int IntKind.i64 a, Value.int IntKind.i64 b] 43) (Obj.cells #[Value.int IntKind.i64 0, Value.int IntKind.i64 0, Value.int IntKind.i64 0] 49) (Obj.cells #[Value.int IntKind.i64 a, Value.int IntKind.i64 b] 2)
        go_enter Try.func25, Try.ntmps25
        go_wp2_with fail
        refine (in_is true 1099511627784 [a, b] _ 2 _ _ HI.out rfl (by omega) (nums_lit _ rfl kA.2.2.2)).mono ?_
        rintro e w' ⟨rfl, rfl⟩
        go_wp2_with fail
        refine bodyPost_ret (v := .tuple #[.agg #[.int .i64 p, .int .i64 a, .int .i64 gu], .int .i64 0]) (by simp [results, Try.results25, go_sem, *]) rfl ?_
        refine ⟨by rw [HP.out], ?_⟩
        repeat first
          | with_reducible exact bB
          | ((with_reducible refine Below.setCell ?_ ?_ _); rotate_left; (dsimp only; omega))
          | exact (((Below.refl _ _).alloc (Nat.le_refl _) _).alloc (by simp) _ |>.alloc (by simp; omega) _ |>.alloc (by simp; omega) _)
      · skip
        have HP : Hid (takeR ge gu a b = ⟨a, b, 0⟩) := Lib.hid (by unfold takeR; rw [if_pos hi, if_neg h1, if_pos h2, Int.max_eq_left (by omega)])
        have d2 : (a == ge) = true := by simpa using h2
        clear hi h2
        have kA := alloc4' w (Obj.cells #[Value.int IntKind.i64 p, Value.int IntKind.i64 ge, Value.int IntKind.i64 gu] 49) (Obj.cells #[Value.int IntKind.i64 a, Value.int IntKind.i64 b] 43) (Obj.cells #[Value.int IntKind.i64 0, Value.int IntKind.i64 0, Value.int IntKind.i64 0] 49) (Obj.cells #[Value.int IntKind.i64 a, Value.int IntKind.i64 b] 2)
        have bB := below4 w (Obj.cells #[Value.int IntKind.i64 p, Value.int IntKind.i64 ge, Value.int IntKind.i64 gu] 49) (Obj.cells #[Value.int IntKind.i64 a, Value.int IntKind.i64 b] 43) (Obj.cells #[Value.int IntKind.i64 0, Value.int IntKind.i64 0, Value.int IntKind.i64 0] 49) (Obj.cells #[Value.int IntKind.i64 a, Value.int IntKind.i64 b] 2)
        go_enter Try.func25, Try.ntmps25
        go_wp2_with fail
        refine (in_is true 1099511627784 [a, b] _ 2 _ _ HI.out rfl (by omega) (nums_lit _ rfl kA.2.2.2)).mono ?_
        rintro e w' ⟨rfl, rfl⟩
        go_wp2_with fail
        refine bodyPost_ret (v := .tuple #[.agg #[.int .i64 p, .int .i64 a, .int .i64 b], .int .i64 0]) (by simp [results, Try.results25, go_sem, *]) rfl ?_
        refine ⟨by rw [HP.out], ?_⟩
        repeat first
          | with_reducible exact bB
          | ((with_reducible refine Below.setCell ?_ ?_ _); rotate_left; (dsimp only; omega))
          | exact (((Below.refl _ _).alloc (Nat.le_refl _) _).alloc (by simp) _ |>.alloc (by simp; omega) _ |>.alloc (by simp; omega) _)
    · skip
      have HP : Hid (takeR ge gu a b = ⟨a, b, 0⟩) := Lib.hid (by unfold takeR; rw [if_pos hi, if_neg h1, if_neg h2])
      have d2 : (a == ge) = false := by simpa using h2
      clear hi h2
      have kA := alloc4' w (Obj.cells #[Value.int IntKind.i64 p, Value.int IntKind.i64 ge, Value.int IntKind.i64 gu] 49) (Obj.cells #[Value.int IntKind.i64 a, Value.int IntKind.i64 b] 43) (Obj.cells #[Value.int IntKind.i64 0, Value.int IntKind.i64 0, Value.int IntKind.i64 0] 49) (Obj.cells #[Value.int IntKind.i64 a, Value.int IntKind.i64 b] 2)
      have bB := below4 w (Obj.cells #[Value.int IntKind.i64 p, Value.int IntKind.i64 ge, Value.int IntKind.i64 gu] 49) (Obj.cells #[Value.int IntKind.i64 a, Value.int IntKind.i64 b] 43) (Obj.cells #[Value.int IntKind.i64 0, Value.int IntKind.i64 0, Value.int IntKind.i64 0] 49) (Obj.cells #[Value.int IntKind.i64 a, Value.int IntKind.i64 b] 2)
      go_enter Try.func25, Try.ntmps25
      go_wp2_with fail
      refine (in_is true 1099511627784 [a, b] _ 2 _ _ HI.out rfl (by omega) (nums_lit _ rfl kA.2.2.2)).mono ?_
      rintro e w' ⟨rfl, rfl⟩
      go_wp2_with fail
      refine bodyPost_ret (v := .tuple #[.agg #[.int .i64 p, .int .i64 a, .int .i64 b], .int .i64 0]) (by simp [results, Try.results25, go_sem, *]) rfl ?_
      refine ⟨by rw [HP.out], ?_⟩
      repeat first
        | with_reducible exact bB
        | ((with_reducible refine Below.setCell ?_ ?_ _); rotate_left; (dsimp only; omega))
        | exact (((Below.refl _ _).alloc (Nat.le_refl _) _).alloc (by simp) _ |>.alloc (by simp; omega) _ |>.alloc (by simp; omega) _)
end Go.Proofs.Ytoedipajcmmhjaa
