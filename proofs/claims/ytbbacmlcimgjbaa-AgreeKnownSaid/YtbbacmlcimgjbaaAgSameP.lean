/-
  The plain law of the statement AgreeSame of chapter 20: what holds of two sides, of what was sent, and of what was merged.
-/
import Derived.Test.YtbbacmlcimgjbaaAgBoth
namespace Go.Proofs.Ytbbacmlcimgjbaa
open Go.RowKit
attribute [local irreducible] In.ok InAt MyIn LongAt In.same both cmdCells SideAt OptAt RdAt RSideAt CellsAt In.merge

/-- what holds: sides s 0, s 1; what was sent: L; what was merged in place j: D j -/
structure Inv (s : Nat → Side) (L : List Rdg) (D : Nat → Option In) : Prop where
  c : ∀ k, k < 2 → (s k).ch = (k : Int)
  z : ∀ k, k < 2 → 0 ≤ (s k).cy
  a : ∀ r, r ∈ L → 0 < r.cy ∧ r.cy < 30
  b : ∀ r, r ∈ L → ∀ k : Nat, k < 2 → r.ch = (k : Int) → r.cy ≤ (s k).cy
  u : ∀ r, r ∈ L → ∀ q, q ∈ L → r.ch = q.ch → r.cy = q.cy → r.I = q.I
  o : ∀ k, k < 2 → ∀ I, (s k).own = some I → ∃ r, r ∈ L ∧ r.ch = (k : Int) ∧ r.cy = (s k).cy ∧ r.I = I
  t : ∀ k, k < 2 → ∀ J, (s k).other = some J → ∃ r, r ∈ L ∧ r.ch = 1 - (k : Int) ∧ r.cy = (s k).cy ∧ r.I = J
  p : ∀ k, k < 2 → ∀ c J, (s k).kept = some (c, J) → ∃ r, r ∈ L ∧ r.ch = 1 - (k : Int) ∧ r.cy = c ∧ r.I = J
  d : ∀ j, j < 60 → ∀ M, D j = some M → ∃ r, r ∈ L ∧ ∃ q, q ∈ L ∧ r.ch = 0 ∧ q.ch = 1 ∧ r.cy = ((j % 30 : Nat) : Int) ∧ q.cy = ((j % 30 : Nat) : Int) ∧ M = r.I.merge q.I
def upd (s : Nat → Side) (k : Nat) (x : Side) (j : Nat) : Side := if j = k then x else s j
theorem upd_same (s : Nat → Side) (k : Nat) (x : Side) : upd s k x k = x := if_pos rfl
theorem upd_other (s : Nat → Side) {k j : Nat} (x : Side) (h : ¬ j = k) : upd s k x j = s j := if_neg h
theorem Inv.start : Inv (fun k => Side.new (k : Int)) [] (fun _ => none) where
  c := fun _ _ => rfl
  z := fun _ _ => Int.le_refl _
  a := fun r h => by simp at h
  b := fun r h => by simp at h
  u := fun r h => by simp at h
  o := fun _ _ _ h => by cases h
  t := fun _ _ _ h => by cases h
  p := fun _ _ _ _ h => by cases h
  d := fun _ _ _ h => by cases h

theorem Inv.begin {s : Nat → Side} {L : List Rdg} {D : Nat → Option In} (h : Inv s L D) {k : Nat} (hk : k < 2) {cy : Int} (hc : ¬ cy ≤ (s k).cy) (h30 : cy < 30) (I : In) (a : Option Addr) (cap : Nat) : Inv (upd s k ((s k).begin cy I)) (L ++ [⟨(k : Int), cy, I, a, cap⟩]) D := by
  have hz := h.z k hk
  have hb : (s k).begin cy I = ⟨(s k).ch, cy, some I, keptAt (s k).kept cy, keptOn (s k).kept cy, false⟩ := by unfold Side.begin; rw [if_neg hc]
  rw [hb]
  have up : ∀ {P : Rdg → Prop}, (∃ r, r ∈ L ∧ P r) → ∃ r, r ∈ L ++ [⟨(k : Int), cy, I, a, cap⟩] ∧ P r := fun ⟨r, h1, h2⟩ => ⟨r, List.mem_append_left _ h1, h2⟩
  refine ⟨?_, ?_, ?_, ?_, ?_, ?_, ?_, ?_, ?_⟩
  · intro j hj
    by_cases hjk : j = k
    · subst hjk; rw [upd_same]; exact h.c j hj
    · rw [upd_other _ _ hjk]; exact h.c j hj
  · intro j hj
    by_cases hjk : j = k
    · subst hjk; rw [upd_same]; show 0 ≤ cy; omega
    · rw [upd_other _ _ hjk]; exact h.z j hj
  · intro r hr
    rcases List.mem_append.1 hr with hr | hr
    · exact h.a r hr
    · obtain rfl := List.mem_singleton.1 hr
      exact ⟨by show 0 < cy; omega, h30⟩
  · intro r hr j hj hrj
    rcases List.mem_append.1 hr with hr | hr
    · have := h.b r hr j hj hrj
      by_cases hjk : j = k
      · subst hjk; rw [upd_same]; show r.cy ≤ cy; omega
      · rw [upd_other _ _ hjk]; exact this
    · obtain rfl := List.mem_singleton.1 hr
      have : j = k := by simp only at hrj; omega
      subst this
      rw [upd_same]; exact Int.le_refl _
  · intro r hr q hq h1 h2
    rcases List.mem_append.1 hr with hr | hr <;> rcases List.mem_append.1 hq with hq | hq
    · exact h.u r hr q hq h1 h2
    · obtain rfl := List.mem_singleton.1 hq
      have := h.b r hr k hk h1
      simp only at h2; omega
    · obtain rfl := List.mem_singleton.1 hr
      have := h.b q hq k hk h1.symm
      simp only at h2; omega
    · obtain rfl := List.mem_singleton.1 hr
      obtain rfl := List.mem_singleton.1 hq
      rfl
  · intro j hj J hJ
    by_cases hjk : j = k
    · subst hjk
      rw [upd_same] at hJ ⊢
      cases hJ
      exact ⟨_, List.mem_append_right _ (List.mem_singleton.2 rfl), rfl, rfl, rfl⟩
    · rw [upd_other _ _ hjk] at hJ ⊢; exact up (h.o j hj J hJ)
  · intro j hj J hJ
    by_cases hjk : j = k
    · subst hjk
      rw [upd_same] at hJ ⊢
      simp only [keptAt] at hJ
      cases hkp : (s j).kept with
      | none => rw [hkp] at hJ; cases hJ
      | some x =>
        obtain ⟨c, K⟩ := x
        rw [hkp] at hJ
        simp only [] at hJ
        by_cases hcc : c = cy
        · rw [if_pos hcc] at hJ; cases hJ
          obtain ⟨r, r1, r2, r3, r4⟩ := h.p j hj c _ hkp
          exact ⟨r, List.mem_append_left _ r1, r2, by rw [r3, hcc], r4⟩
        · rw [if_neg hcc] at hJ; cases hJ
    · rw [upd_other _ _ hjk] at hJ ⊢; exact up (h.t j hj J hJ)
  · intro j hj c J hJ
    by_cases hjk : j = k
    · subst hjk
      rw [upd_same] at hJ
      simp only [keptOn] at hJ
      cases hkp : (s j).kept with
      | none => rw [hkp] at hJ; cases hJ
      | some x =>
        obtain ⟨c', K⟩ := x
        rw [hkp] at hJ
        simp only [] at hJ
        by_cases hcc : c' ≤ cy
        · rw [if_pos hcc] at hJ; cases hJ
        · rw [if_neg hcc] at hJ; cases hJ
          exact up (h.p j hj _ _ hkp)
    · rw [upd_other _ _ hjk] at hJ; exact up (h.p j hj c J hJ)
  · intro j hj M hM
    obtain ⟨r, h1, q, h2, h3⟩ := h.d j hj M hM
    exact ⟨r, List.mem_append_left _ h1, q, List.mem_append_left _ h2, h3⟩

theorem Inv.same {s : Nat → Side} {L : List Rdg} {D : Nat → Option In} (h : Inv s L D) {k : Nat} {x : Side} (hx : x = s k) : Inv (upd s k x) L D := by
  have : upd s k x = s := by
    funext j
    by_cases hjk : j = k
    · subst hjk; rw [upd_same, hx]
    · rw [upd_other _ _ hjk]
  rw [this]; exact h
/-- a side of which but other, kept, broken may have changed -/
theorem Inv.step {s : Nat → Side} {L : List Rdg} {D : Nat → Option In} (h : Inv s L D) {k : Nat} (hk : k < 2) (t : Option In) (p : Option (Int × In)) (b : Bool)
    (ht : ∀ J, t = some J → ∃ r, r ∈ L ∧ r.ch = 1 - (k : Int) ∧ r.cy = (s k).cy ∧ r.I = J) (hp : ∀ c J, p = some (c, J) → ∃ r, r ∈ L ∧ r.ch = 1 - (k : Int) ∧ r.cy = c ∧ r.I = J) :
    Inv (upd s k ⟨(s k).ch, (s k).cy, (s k).own, t, p, b⟩) L D := by
  refine ⟨?_, ?_, h.a, ?_, h.u, ?_, ?_, ?_, h.d⟩
  · intro j hj
    by_cases hjk : j = k
    · subst hjk; rw [upd_same]; exact h.c j hj
    · rw [upd_other _ _ hjk]; exact h.c j hj
  · intro j hj
    by_cases hjk : j = k
    · subst hjk; rw [upd_same]; exact h.z j hj
    · rw [upd_other _ _ hjk]; exact h.z j hj
  · intro r hr j hj hrj
    by_cases hjk : j = k
    · subst hjk; rw [upd_same]; exact h.b r hr j hj hrj
    · rw [upd_other _ _ hjk]; exact h.b r hr j hj hrj
  · intro j hj J hJ
    by_cases hjk : j = k
    · subst hjk; rw [upd_same] at hJ ⊢; exact h.o j hj J hJ
    · rw [upd_other _ _ hjk] at hJ ⊢; exact h.o j hj J hJ
  · intro j hj J hJ
    by_cases hjk : j = k
    · subst hjk; rw [upd_same] at hJ ⊢; exact ht J hJ
    · rw [upd_other _ _ hjk] at hJ ⊢; exact h.t j hj J hJ
  · intro j hj c J hJ
    by_cases hjk : j = k
    · subst hjk; rw [upd_same] at hJ; exact hp c J hJ
    · rw [upd_other _ _ hjk] at hJ; exact h.p j hj c J hJ
theorem Inv.hear {s : Nat → Side} {L : List Rdg} {D : Nat → Option In} (h : Inv s L D) {k : Nat} (hk : k < 2) {r : Rdg} (hr : r ∈ L) : Inv (upd s k ((s k).hear r.ch r.cy r.I).1) L D := by
  unfold Side.hear
  by_cases h1 : r.ch = 1 - (s k).ch
  · rw [if_neg (by simpa using h1)]
    have hch : r.ch = 1 - (k : Int) := by rw [h1, h.c k hk]
    by_cases h2 : r.cy < (s k).cy
    · rw [if_pos h2]; exact h.same rfl
    rw [if_neg h2]
    by_cases h3 : (s k).cy < r.cy
    · rw [if_pos h3]
      have hnew : Inv (upd s k ⟨(s k).ch, (s k).cy, (s k).own, (s k).other, some (r.cy, r.I), (s k).broken⟩) L D :=
        h.step hk _ _ _ (h.t k hk) (fun c J e => by cases e; exact ⟨r, hr, hch, rfl, rfl⟩)
      cases hkp : (s k).kept with
      | none => exact hnew
      | some x =>
        obtain ⟨c, J⟩ := x
        simp only []
        by_cases h4 : c < r.cy
        · rw [if_pos h4]; exact hnew
        rw [if_neg h4]
        split
        · exact h.same rfl
        · exact h.same rfl
    rw [if_neg h3]
    have heq : r.cy = (s k).cy := by omega
    cases ho : (s k).other with
    | none => exact h.step hk _ _ _ (fun J e => by cases e; exact ⟨r, hr, hch, heq, rfl⟩) (h.p k hk)
    | some J =>
      simp only []
      split
      · exact h.same rfl
      · exact h.step hk _ _ _ (by rw [← ho]; exact h.t k hk) (h.p k hk)
  · rw [if_pos (by simpa using h1)]
    exact h.same rfl
theorem both_comm (a b : List (Nat × Int)) : both a b = both b a := by
  unfold both
  by_cases h : a = b
  · rw [if_pos h, if_pos h.symm, h]
  · rw [if_neg h, if_neg fun e => h e.symm]
theorem In.merge_comm (I J : In) : I.merge J = J.merge I := by
  unfold In.merge
  rw [Nat.or_comm, Nat.and_comm I.n, Nat.and_comm I.r, both_comm]
theorem Inv.merged {s : Nat → Side} {L : List Rdg} {D : Nat → Option In} (h : Inv s L D) {k : Nat} (hk : k < 2) (hm : (s k).mOk = true) :
    ∃ r, r ∈ L ∧ ∃ q, q ∈ L ∧ r.ch = 0 ∧ q.ch = 1 ∧ r.cy = (s k).cy ∧ q.cy = (s k).cy ∧ (s k).mIn = r.I.merge q.I ∧ 0 < (s k).cy ∧ (s k).cy < 30 := by
  unfold Side.mOk at hm
  cases ho : (s k).own with
  | none => rw [ho] at hm; cases hm
  | some I =>
    cases ht : (s k).other with
    | none => rw [ho, ht] at hm; cases hm
    | some J =>
      have hb : (s k).broken = false := by rw [ho, ht] at hm; simpa using hm
      have hz : (s k).mIn = I.merge J := by
        unfold Side.mIn; rw [ho, ht]; simp only []; rw [hb]; rfl
      obtain ⟨r, r1, r2, r3, r4⟩ := h.o k hk I ho
      obtain ⟨q, q1, q2, q3, q4⟩ := h.t k hk J ht
      have hcy := h.a r r1
      rw [r3] at hcy
      rcases (show k = 0 ∨ k = 1 by omega) with rfl | rfl
      · exact ⟨r, r1, q, q1, r2, q2, r3, q3, by rw [hz, r4, q4], hcy⟩
      · exact ⟨q, q1, r, r1, by rw [q2]; rfl, r2, q3, r3, by rw [hz, r4, q4, In.merge_comm], hcy⟩
def updD (D : Nat → Option In) (j : Nat) (M : In) (i : Nat) : Option In := if i = j then some M else D i
theorem updD_same (D : Nat → Option In) (j : Nat) (M : In) : updD D j M j = some M := if_pos rfl
theorem updD_other (D : Nat → Option In) {i j : Nat} (M : In) (h : ¬ i = j) : updD D j M i = D i := if_neg h
theorem Inv.put {s : Nat → Side} {L : List Rdg} {D : Nat → Option In} (h : Inv s L D) {j : Nat} {M : In} {r q : Rdg} (hr : r ∈ L) (hq : q ∈ L) (r0 : r.ch = 0) (q0 : q.ch = 1) (r1 : r.cy = ((j % 30 : Nat) : Int)) (q1 : q.cy = ((j % 30 : Nat) : Int)) (hM : M = r.I.merge q.I) : Inv s L (updD D j M) where
  c := h.c
  z := h.z
  a := h.a
  b := h.b
  u := h.u
  o := h.o
  t := h.t
  p := h.p
  d := by
    intro i hi N hN
    by_cases hij : i = j
    · subst hij
      rw [updD_same] at hN
      cases hN
      exact ⟨r, hr, q, hq, r0, q0, r1, q1, hM⟩
    · rw [updD_other _ _ hij] at hN
      exact h.d i hi N hN
theorem Inv.agree {s : Nat → Side} {L : List Rdg} {D : Nat → Option In} (h : Inv s L D) {t : Nat} (ht : t < 30) {M N : In} (h1 : D t = some M) (h2 : D (30 + t) = some N) : M.same N = true := by
  obtain ⟨r, hr, q, hq, r0, q0, r1, q1, e1⟩ := h.d t (by omega) M h1
  obtain ⟨r', hr', q', hq', r0', q0', r1', q1', e2⟩ := h.d (30 + t) (by omega) N h2
  rw [show t % 30 = t by omega] at r1 q1
  rw [show (30 + t) % 30 = t by omega] at r1' q1'
  have a1 := h.u r hr r' hr' (by rw [r0, r0']) (by rw [r1, r1'])
  have a2 := h.u q hq q' hq' (by rw [q0, q0']) (by rw [q1, q1'])
  rw [e1, e2, a1, a2]
  exact In.same_refl _
end Go.Proofs.Ytbbacmlcimgjbaa
