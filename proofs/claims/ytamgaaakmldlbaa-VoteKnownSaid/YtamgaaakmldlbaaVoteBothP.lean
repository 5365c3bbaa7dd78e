/-
  Plain law of the statement VoteBoth of chapter 12: what the machine shows was put by both.
-/
import Derived.Test.YtamgaaakmldlbaaVote
namespace Go.Proofs.Ytamgaaakmldlbaa

/-- among the calls from m up to k, one puts f by channel ch -/
def Was (l : List (Int × Int × Frm)) (m k : Nat) (ch : Int) (f : Frm) : Prop := ∃ j c, m ≤ j ∧ j < k ∧ l[j]? = some c ∧ c.1 % 6 < 3 ∧ c.2.1 = ch ∧ c.2.2 = f
theorem Was.more {l : List (Int × Int × Frm)} {m k : Nat} {ch : Int} {f : Frm} (h : Was l m k ch f) : Was l m (k + 1) ch f := by
  obtain ⟨j, c, h1, h2, h3⟩ := h; exact ⟨j, c, h1, by omega, h3⟩
structure Inv (l : List (Int × Int × Frm)) (m k : Nat) (s : VSt) : Prop where
  p0 : ∀ f, s.p0 = some f → Was l m k 0 f
  p1 : ∀ f, s.p1 = some f → Was l m k 1 f
  sh : ∀ f, s.shown = some f → Was l m k 0 f ∧ Was l m k 1 f ∧ f.c = s.last ∧ s.stopped = false
/-- what a step of the machine does to what is shown, and to the greatest cycle -/
def Goes (s s' : VSt) : Prop :=
  s'.shown = none ∧ s'.last = s.last ∨
  ∃ f, s'.shown = some f ∧ s.stopped = false ∧ s'.stopped = false ∧ (s.shown = some f ∧ s'.last = s.last ∨ s.shown = none ∧ s.last < f.c ∧ s'.last = f.c ∨ ∃ g, s.shown = some g ∧ ¬ f = g ∧ s.last < f.c ∧ s'.last = f.c)
theorem Inv.more {l : List (Int × Int × Frm)} {m k : Nat} {s : VSt} (h : Inv l m k s) : Inv l m (k + 1) s :=
  ⟨fun f hf => (h.p0 f hf).more, fun f hf => (h.p1 f hf).more, fun f hf => ⟨(h.sh f hf).1.more, (h.sh f hf).2.1.more, (h.sh f hf).2.2⟩⟩
theorem inv_stop (l : List (Int × Int × Frm)) (m k : Nat) (s : VSt) : Inv l m k s.stop := ⟨fun f hf => (by cases hf), fun f hf => (by cases hf), fun f hf => (by cases hf)⟩
theorem inv_reset (l : List (Int × Int × Frm)) (m k : Nat) (s : VSt) : Inv l m k s.reset := ⟨fun f hf => (by cases hf), fun f hf => (by cases hf), fun f hf => (by cases hf)⟩
theorem goes_stop (s : VSt) : Goes s s.stop := .inl ⟨rfl, rfl⟩
theorem goes_reset (s : VSt) : Goes s s.reset := .inl ⟨rfl, rfl⟩
theorem Inv.goes_self {l : List (Int × Int × Frm)} {m k : Nat} {s : VSt} (h : Inv l m k s) : Goes s s := by
  cases hs : s.shown with
  | none => exact .inl ⟨hs, rfl⟩
  | some f => exact .inr ⟨f, hs, (h.sh f hs).2.2.2, (h.sh f hs).2.2.2, .inl ⟨hs, rfl⟩⟩
theorem fin_cases (s : VSt) : s.fin.1 = s ∨ s.fin.1 = s.stop := by
  unfold VSt.fin
  split
  · exact .inr rfl
  · split <;> exact .inl rfl
theorem Inv.fin {l : List (Int × Int × Frm)} {m k : Nat} {s : VSt} (h : Inv l m k s) : Inv l m (k + 1) s.fin.1 ∧ Goes s s.fin.1 := by
  rcases fin_cases s with e | e
  · rw [e]; exact ⟨h.more, h.goes_self⟩
  · rw [e]; exact ⟨inv_stop _ _ _ _, goes_stop _⟩
theorem put_cases (s : VSt) (ch : Int) (F : Frm) : (s.put ch F).1 = s ∨ (s.put ch F).1 = s.stop ∨
    ((ch = 0 ∨ ch = 1) ∧ (s.put ch F).1 = s.lay ch F) ∨
    ((ch = 0 ∨ ch = 1) ∧ s.stopped = false ∧ s.last < F.c ∧ s.oth ch = some F ∧ (s.put ch F).1 = ⟨none, none, some F, F.c, false⟩) := by
  unfold VSt.put
  by_cases h1 : ch ≠ 0 ∧ ch ≠ 1
  · rw [if_pos h1]; exact .inl rfl
  rw [if_neg h1]
  by_cases h2 : s.stopped = true
  · rw [if_pos h2]; exact .inl rfl
  rw [if_neg h2]
  by_cases h3 : (s.own ch).isSome = true
  · rw [if_pos h3]; exact .inr (.inl rfl)
  rw [if_neg h3]
  by_cases h4 : F.c ≤ s.last
  · rw [if_pos h4]; exact .inr (.inl rfl)
  rw [if_neg h4]
  have hch : ch = 0 ∨ ch = 1 := by omega
  cases h5 : s.oth ch with
  | none => exact .inr (.inr (.inl ⟨hch, rfl⟩))
  | some g =>
    by_cases h6 : g ≠ F
    · simp only [if_pos h6, true_or, or_true]
    · have : g = F := Classical.not_not.1 h6
      subst this
      simp only [ne_eq, not_true, if_false]
      exact .inr (.inr (.inr ⟨hch, by simpa using h2, by omega, trivial, trivial⟩))
theorem Inv.put {l : List (Int × Int × Frm)} {m k : Nat} {s : VSt} {c : Int × Int × Frm} (h : Inv l m k s) (hm : m ≤ k) (hc : l[k]? = some c) (hk : c.1 % 6 < 3) : Inv l m (k + 1) (s.put c.2.1 c.2.2).1 ∧ Goes s (s.put c.2.1 c.2.2).1 := by
  have me : ∀ ch, c.2.1 = ch → Was l m (k + 1) ch c.2.2 := fun ch e => ⟨k, c, hm, by omega, hc, hk, e, rfl⟩
  rcases put_cases s c.2.1 c.2.2 with e | e | ⟨hch, e⟩ | ⟨hch, hst, hlt, hoth, e⟩
  · rw [e]; exact ⟨h.more, h.goes_self⟩
  · rw [e]; exact ⟨inv_stop _ _ _ _, goes_stop _⟩
  · rw [e]
    rcases hch with e0 | e0
    · simp only [VSt.lay, e0, if_true]
      refine ⟨⟨fun f hf => ?_, h.more.p1, h.more.sh⟩, ?_⟩
      · cases hf; exact me 0 e0
      · exact h.goes_self
    · simp only [VSt.lay, e0, show ¬ ((1 : Int) = 0) by decide, if_false]
      refine ⟨⟨h.more.p0, fun f hf => ?_, h.more.sh⟩, ?_⟩
      · cases hf; exact me 1 e0
      · exact h.goes_self
  · rw [e]
    refine ⟨⟨fun f hf => (by cases hf), fun f hf => (by cases hf), fun f hf => ?_⟩, ?_⟩
    · cases hf
      rcases hch with e0 | e0
      · rw [e0] at hoth
        exact ⟨me 0 e0, (h.p1 _ (by simpa [VSt.oth] using hoth)).more, rfl, rfl⟩
      · rw [e0] at hoth
        exact ⟨(h.p0 _ (by simpa [VSt.oth] using hoth)).more, me 1 e0, rfl, rfl⟩
    · refine .inr ⟨c.2.2, rfl, hst, rfl, ?_⟩
      cases hs : s.shown with
      | none => exact .inr (.inl ⟨rfl, hlt, rfl⟩)
      | some g =>
        refine .inr (.inr ⟨g, rfl, ?_, hlt, rfl⟩)
        intro e1
        have := (h.sh g hs).2.2.1
        rw [← e1] at this
        omega
end Go.Proofs.Ytamgaaakmldlbaa
