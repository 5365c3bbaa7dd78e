/-
  Layer 05: numbers that are twice in a row, and how often a number is in a row; no program in sight.
-/
import Derived.Test.YtdkcpejlojdijaaToS
namespace Go.Proofs.Ytdkcpejlojdijaa
open Go.RowKit

theorem any_eq {l : List Int} {y : Int} : (l.any fun n => decide (n = y)) = false ↔ y ∉ l := by
  rw [List.any_eq_false]
  constructor
  · intro h hm
    have := h y hm
    simp at this
  · intro h x hx
    simp
    intro e
    exact h (e ▸ hx)
theorem dupI_iff : ∀ (l pre : List Int), dupI pre l = false ↔ (l.Nodup ∧ ∀ y ∈ l, y ∉ pre) := by
  intro l
  induction l with
  | nil => intro pre; exact ⟨fun _ => ⟨List.nodup_nil, by simp⟩, fun _ => rfl⟩
  | cons y l ih =>
    intro pre
    have e : dupI pre (y :: l) = ((pre.any fun n => decide (n = y)) || dupI (pre ++ [y]) l) := rfl
    rw [e, Bool.or_eq_false_iff, any_eq, ih]
    constructor
    · rintro ⟨h1, h2, h3⟩
      refine ⟨List.nodup_cons.2 ⟨fun hm => ?_, h2⟩, fun z hz => ?_⟩
      · exact h3 y hm (by simp)
      · rcases List.mem_cons.1 hz with rfl | hz
        · exact h1
        · exact fun hp => h3 z hz (by simp [hp])
    · rintro ⟨h1, h2⟩
      obtain ⟨g1, g2⟩ := List.nodup_cons.1 h1
      refine ⟨h2 y (by simp), g2, fun z hz hp => ?_⟩
      rcases List.mem_append.1 hp with hp | hp
      · exact h2 z (by simp [hz]) hp
      · simp at hp; subst hp; exact g1 hz
theorem dupN_eq : ∀ (l pre : List (Int × Bool)), dupN pre l = dupI (pre.map (·.1)) (l.map (·.1)) := by
  intro l
  induction l with
  | nil => intro pre; rfl
  | cons y l ih =>
    intro pre
    have e1 : dupN pre (y :: l) = ((pre.any fun n => decide (n.1 = y.1)) || dupN (pre ++ [y]) l) := rfl
    have e2 : dupI (pre.map (·.1)) ((y :: l).map (·.1)) = (((pre.map (·.1)).any fun n => decide (n = y.1)) || dupI (pre.map (·.1) ++ [y.1]) (l.map (·.1))) := rfl
    rw [e1, e2, ih, List.map_append, List.any_map]
    rfl
theorem cntI_count (l : List Int) (s : Int) : cntI l s = l.count s := by
  unfold cntI
  rw [List.count_eq_length_filter]
  congr 1
/-- no number is twice just if each is there once at most -/
theorem dup_count (l : List Int) : dupI [] l = false ↔ ∀ y ∈ l, cntI l y ≤ 1 := by
  rw [dupI_iff]
  constructor
  · intro h y _
    rw [cntI_count]
    exact List.nodup_iff_count.1 h.1 y
  · intro h
    refine ⟨List.nodup_iff_count.2 fun y => ?_, by simp⟩
    by_cases hy : y ∈ l
    · have := h y hy; rwa [cntI_count] at this
    · rw [List.count_eq_zero_of_not_mem hy]; exact Nat.zero_le _
theorem cnt_pos (l : List Int) (s : Int) : 0 < cntI l s ↔ hasI l s = true := by
  rw [cntI_count, List.count_pos_iff]
  unfold hasI
  rw [List.any_eq_true]
  constructor
  · exact fun h => ⟨s, h, decide_eq_true rfl⟩
  · rintro ⟨x, hx, h⟩
    have := of_decide_eq_true h
    subst this
    exact hx
end Go.Proofs.Ytdkcpejlojdijaa
