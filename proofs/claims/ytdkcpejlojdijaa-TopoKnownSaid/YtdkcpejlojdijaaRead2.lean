/-
  Readings, field by field and element by element. Over any program.
-/
import Derived.Test.YtdkcpejlojdijaaRead
import Derived.Laws.StructEq
namespace Go.Proofs.Ytdkcpejlojdijaa
open Go.RowKit

/-- a list out of a row of choices -/
theorem list_of {α : Type} {Q : Nat → α → Prop} : ∀ (n : Nat), (∀ i, i < n → ∃ c, Q i c) → ∃ l : List α, l.length = n ∧ ∀ (i : Nat) (c : α), l[i]? = some c → Q i c := by
  intro n
  induction n with
  | zero => intro _; exact ⟨[], rfl, fun i c h => by simp at h⟩
  | succ n ih =>
    intro h
    obtain ⟨l, hl, hq⟩ := ih fun i hi => h i (by omega)
    obtain ⟨c, hc⟩ := h n (by omega)
    refine ⟨l ++ [c], by simp [hl], fun i d hd => ?_⟩
    rcases Nat.lt_or_ge i n with hi | hi
    · rw [List.getElem?_append_left (by omega)] at hd; exact hq i d hd
    · have hin : i = n := by
        have := (List.getElem?_eq_some_iff.1 hd).1
        simp [hl] at this; omega
      subst hin
      rw [List.getElem?_append_right (by omega), hl, Nat.sub_self] at hd
      simp at hd; subst hd; exact hc
theorem Rd.fields {P : Program} {w : World} {t : TypeId} {cs : List Value} {L : List (TypeId × Nat)} (hu : P.underlying t = some (.struct (P.fieldsOf t))) (hL : (P.fieldsOf t).toList.map (fun f => (f.type, f.offset)) = L) (h : Rd P w t cs) :
    cs.length = P.cellsOf t ∧ ∀ x ∈ L, Rd P w x.1 ((cs.drop x.2).take (P.cellsOf x.1)) := by
  obtain ⟨h1, h2⟩ := h.struct hu
  refine ⟨h1, fun x hx => ?_⟩
  rw [← hL] at hx
  obtain ⟨f, hf, rfl⟩ := List.mem_map.1 hx
  exact h2 f hf
theorem array_of_list {α : Type} {c : Array α} {l : List α} (h : c.toList = l) : c = l.toArray := by rw [← h]
end Go.Proofs.Ytdkcpejlojdijaa
