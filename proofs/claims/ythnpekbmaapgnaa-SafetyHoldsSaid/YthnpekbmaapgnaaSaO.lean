/-
 Layer 29: SafetyLess, plainly.
-/
import Derived.Test.YthnpekbmaapgnaaSaF
namespace Go.Proofs.Ythnpekbmaapgnaa
open Go.RowKit
theorem bit_and {p f i : Nat} (h : hasBit (p &&& f) i = true) : hasBit p i = true := by
 have e1 : hasBit (p &&& f) i = (p &&& f).testBit i := (Nat.testBit_eq_decide_div_mod_eq).symm
 have e2 : hasBit p i = p.testBit i := (Nat.testBit_eq_decide_div_mod_eq).symm
 rw [e1, Nat.testBit_and, Bool.and_eq_true] at h
 rw [e2]; exact h.1
theorem mems_sub {p f k : Nat} : ∀ c ∈ mems (p &&& f) k, c ∈ mems p k := fun _ hc => mems_mem.2 ⟨(mems_mem.1 hc).1, bit_and (mems_mem.1 hc).2⟩
theorem shI_sub {p f k : Nat} : ∀ a ∈ shI (p &&& f) k, a ∈ shI p k := by
 intro a ha
 unfold shI at *
 obtain ⟨c, hc, rfl⟩ := List.mem_map.1 ha
 exact List.mem_map.2 ⟨c, mems_sub c hc, rfl⟩
theorem shR_sub {L : Lay} {p f k : Nat} : ∀ a ∈ shR L (p &&& f) k, a ∈ shR L p k := by
 intro a ha
 unfold shR at *
 obtain ⟨c, hc, h⟩ := List.mem_filterMap.1 ha
 exact List.mem_filterMap.2 ⟨c, mems_sub c hc, h⟩
theorem any_sub {α : Type} {f : α → Bool} {l m : List α} (hs : ∀ x ∈ l, x ∈ m) (h : m.any f = false) : l.any f = false := by
 rw [List.any_eq_false] at *
 exact fun x hx => h x (hs x hx)
theorem claI_sub {L : Lay} {l m : List Int} (hs : ∀ x ∈ l, x ∈ m) (h : claI L m = false) : claI L l = false := by
 unfold claI at *
 rw [List.any_eq_false] at *
 intro x hx
 have h1 := h x (hs x hx)
 rw [Bool.not_eq_true] at *
 exact any_sub hs h1
theorem and_div {p f n : Nat} (h : p / pw n = 0) : (p &&& f) / pw n = 0 := by
 have h0 := pw_pos n
 rw [Nat.div_eq_zero_iff] at *
 rcases h with h | h
 ·omega
 ·exact Or.inr (Nat.lt_of_le_of_lt Nat.and_le_left h)
theorem cyc_parts {L : Lay} {o n v p q : Nat} (h : cycS L o n v p q = 0) : (checkS L).1 = 0 ∧ outSA L p q = false ∧ claI L (shI p L.rt.l.length) = false ∧ occS o (shR L p L.rt.l.length) = false ∧ lieS n v (shR L p L.rt.l.length) = false ∧ turS q (shR L p L.rt.l.length) = false := by
 unfold cycS at h
 by_cases h1 : (checkS L).1 = 0
 ·rw [if_pos h1] at h
  cases h2 : outSA L p q <;> cases h3 : claI L (shI p L.rt.l.length) <;> cases h4 : occS o (shR L p L.rt.l.length) <;> cases h5 : lieS n v (shR L p L.rt.l.length) <;> cases h6 : turS q (shR L p L.rt.l.length) <;> simp [h2, h3, h4, h5, h6] at h <;> exact ⟨h1, rfl, rfl, rfl, rfl, rfl⟩
 ·rw [if_neg h1] at h; cases h
theorem cyc_less {L : Lay} {o n v p q f : Nat} (h : cycS L o n v p q = 0) : cycS L o n v (p &&& f) q = 0 := by
 obtain ⟨h1, h2, h3, h4, h5, h6⟩ := cyc_parts h
 refine cyc_0 h1 ?_ (claI_sub shI_sub h3) ?_ ?_ ?_
 ·unfold outSA at *
  rw [Bool.or_eq_false_iff] at *
  refine ⟨?_, h2.2⟩
  have h7 : p / pw L.rt.l.length = 0 := by
   have := h2.1
   rw [Bool.not_eq_false', decide_eq_true_eq] at this
   exact this
  rw [and_div h7]; rfl
 ·unfold occS at *; exact any_sub shR_sub h4
 ·unfold lieS at *; exact any_sub shR_sub h5
 ·unfold turS at *; exact any_sub shR_sub h6
theorem shI_none (k : Nat) : shI 0 k = [] := by
 unfold shI
 rw [List.map_eq_nil_iff, List.eq_nil_iff_forall_not_mem]
 intro c hc
 have := (mems_mem.1 hc).2
 simp [hasBit] at this
theorem shR_none (L : Lay) (k : Nat) : shR L 0 k = [] := by
 rw [List.eq_nil_iff_forall_not_mem]
 intro r hr
 unfold shR at hr
 obtain ⟨c, hc, _⟩ := List.mem_filterMap.1 hr
 have := (mems_mem.1 hc).2
 simp [hasBit] at this
theorem cyc_none {L : Lay} {o n v q : Nat} (h1 : (checkS L).1 = 0) (hq : q < pw L.po.l.length) : cycS L o n v 0 q = 0 := by
 refine cyc_0 h1 ?_ (by rw [shI_none]; rfl) (by rw [shR_none]; rfl) (by rw [shR_none]; rfl) (by rw [shR_none]; rfl)
 unfold outSA
 rw [Nat.zero_div, Nat.div_eq_of_lt hq]
 rfl
end Go.Proofs.Ythnpekbmaapgnaa
