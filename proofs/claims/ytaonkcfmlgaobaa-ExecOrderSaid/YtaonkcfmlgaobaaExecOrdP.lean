/-
  Plain law of the statement ExecOrder of chapter 19.
-/
import Derived.Test.YtaonkcfmlgaobaaExecLawA
namespace Go.Proofs.Ytaonkcfmlgaobaa
open Go.RowKit

/-- what the law's two counters say of the machine -/
structure Ord (N M : Nat) (s : ESt) (D T : Nat) : Prop where
  ph : s.ph = N
  dl : s.dl = M
  dv : ∃ C Q : Nat, s.cy = C ∧ s.p = Q ∧ D = C * N + Q
  la : s.late = true → M < T
  nl : s.late = false → s.tk = T
theorem Ord.quo {N M D T : Nat} {s : ESt} (h : Ord N M s D T) (hi : EInv s) : (D : Int) / (N : Int) = s.cy ∧ (D : Int) % (N : Int) = s.p ∧ (D : Int).tdiv N = s.cy ∧ (D : Int).tmod N = s.p := by
  obtain ⟨C, Q, h1, h2, h3⟩ := h.dv
  have hQ : Q < N := by have := hi.p2; rw [h2, h.ph] at this; omega
  have e1 : D / N = C := by rw [h3, Nat.mul_comm, Nat.mul_add_div (by omega), Nat.div_eq_of_lt hQ, Nat.add_zero]
  have e2 : D % N = Q := by rw [h3, Nat.mul_comm, Nat.mul_add_mod, Nat.mod_eq_of_lt hQ]
  have k1 : (D : Int) / (N : Int) = s.cy := by rw [h1, ← e1]; norm_cast
  have k2 : (D : Int) % (N : Int) = s.p := by rw [h2, ← e2]; norm_cast
  exact ⟨k1, k2, by rw [Int.tdiv_eq_ediv_of_nonneg (by omega), k1], by rw [Int.tmod_eq_emod_of_nonneg (by omega), k2]⟩
theorem Ord.late {N M D T : Nat} {s : ESt} (h : Ord N M s D T) (hi : EInv s) : decide ((M : Int) < (T : Int)) = s.late := by
  cases hl : s.late with
  | true => exact decide_eq_true (by have := h.la hl; omega)
  | false => exact decide_eq_false (by have := h.nl hl; have := hi.tk2; have := h.dl; omega)
theorem Ord.tick {N M D T : Nat} {s : ESt} (h : Ord N M s D T) (hi : EInv s) : Ord N M s.tick.1 D (T + 1) := by
  obtain ⟨h1, h2, h3, h4, h5⟩ := h
  have := hi.tk2
  unfold ESt.tick
  cases hl : s.late with
  | true => exact ⟨h1, h2, h3, fun _ => by have := h4 hl; omega, fun h => by simp [hl] at h⟩
  | false =>
    have := h5 hl
    by_cases hc : s.tk < s.dl
    · simp only [hc, Bool.false_eq_true, if_true, if_false]
      exact ⟨h1, h2, h3, fun h => (by cases h), fun _ => by dsimp only; omega⟩
    · simp only [hc, Bool.false_eq_true, if_false]
      exact ⟨h1, h2, h3, fun _ => by omega, fun h => (by cases h)⟩
theorem Ord.reset {N M D T : Nat} {s : ESt} (h : Ord N M s D T) (hl : s.late = true) : s.reset = (⟨s.ph, s.dl, s.cy, 0, 0, false⟩, 0) ∧ ∃ D' : Nat, (D : Int) - s.p = D' ∧ D' ≤ D ∧ Ord N M ⟨s.ph, s.dl, s.cy, 0, 0, false⟩ D' 0 := by
  obtain ⟨C, Q, h1, h2, h3⟩ := h.dv
  exact ⟨by simp [ESt.reset, hl], C * N, by rw [h2, h3]; omega, by omega, ⟨h.ph, h.dl, ⟨C, 0, h1, rfl, rfl⟩, fun h => (by cases h), fun _ => rfl⟩⟩
theorem done_err {s s1 : ESt} {x r : Int} (h : s.done x = (s1, r)) (hr : ¬ r = 0) : s1 = s := by
  unfold ESt.done at h
  repeat' split at h
  all_goals (simp only [Prod.mk.injEq] at h; first | exact h.1.symm | exact absurd h.2.symm hr)
theorem Ord.done {N M D T : Nat} {s s1 : ESt} {x : Int} (h : Ord N M s D T) (hi : EInv s) (hd : s.done x = (s1, 0)) :
    s.late = false ∧ x = s.p ∧ ((((D : Int) + 1).tmod N == 0) = false ∧ (((D : Int) + 1) % (N : Int) == 0) = false ∧ Ord N M s1 (D + 1) T ∨ (((D : Int) + 1).tmod N == 0) = true ∧ (((D : Int) + 1) % (N : Int) == 0) = true ∧ Ord N M s1 (D + 1) 0) := by
  obtain ⟨C, Q, h1, h2, h3⟩ := h.dv
  have hN : 1 ≤ N := by have := hi.ph1; have := h.ph; omega
  have hQ : Q < N := by have := hi.p2; rw [h2, h.ph] at this; omega
  have tm : ((D : Int) + 1).tmod N = ((D : Int) + 1) % (N : Int) := Int.tmod_eq_emod_of_nonneg (by omega)
  have em : ((D : Int) + 1) % (N : Int) = (((D + 1) % N : Nat) : Int) := by norm_cast
  unfold ESt.done at hd
  by_cases c1 : x < 0 ∨ s.ph ≤ x
  · rw [if_pos c1] at hd; simp at hd
  rw [if_neg c1] at hd
  cases hl : s.late with
  | true => rw [if_pos hl] at hd; simp at hd
  | false =>
  rw [if_neg (by rw [hl]; decide)] at hd
  by_cases c2 : x ≠ s.p
  · rw [if_pos c2] at hd; simp at hd
  rw [if_neg c2] at hd
  refine ⟨rfl, Classical.not_not.1 c2, ?_⟩
  by_cases c3 : x < s.ph - 1
  · rw [if_pos c3] at hd
    have hs : s1 = ⟨s.ph, s.dl, s.cy, s.p + 1, s.tk, false⟩ := by simp only [Prod.mk.injEq, and_true] at hd; exact hd.symm
    have hQ1 : Q + 1 < N := by have := h.ph; omega
    have e : (D + 1) % N = Q + 1 := by rw [h3, Nat.mul_comm, Nat.add_assoc, Nat.mul_add_mod, Nat.mod_eq_of_lt hQ1]
    have z : ((((D + 1) % N : Nat) : Int) == 0) = false := by rw [e]; simp; omega
    left
    rw [tm, em]
    refine ⟨z, z, ?_⟩
    subst hs
    exact ⟨h.ph, h.dl, ⟨C, Q + 1, h1, by dsimp only; omega, by omega⟩, fun h => (by cases h), fun _ => h.nl hl⟩
  rw [if_neg c3] at hd
  by_cases c4 : s.cy = 1099511627776
  · rw [if_pos c4] at hd; simp at hd
  rw [if_neg c4] at hd
  have hs : s1 = ⟨s.ph, s.dl, s.cy + 1, 0, 0, false⟩ := by simp only [Prod.mk.injEq, and_true] at hd; exact hd.symm
  have hQ1 : Q + 1 = N := by have := h.ph; have := Classical.not_not.1 c2; omega
  have e : (D + 1) % N = 0 := by rw [h3, Nat.add_assoc, hQ1, Nat.mul_comm, Nat.mul_add_mod, Nat.mod_self]
  have z : ((((D + 1) % N : Nat) : Int) == 0) = true := by rw [e]; rfl
  right
  rw [tm, em]
  refine ⟨z, z, ?_⟩
  subst hs
  exact ⟨h.ph, h.dl, ⟨C + 1, 0, by dsimp only; omega, rfl, by rw [Nat.succ_mul]; omega⟩, fun h => (by cases h), fun _ => rfl⟩
end Go.Proofs.Ytaonkcfmlgaobaa
