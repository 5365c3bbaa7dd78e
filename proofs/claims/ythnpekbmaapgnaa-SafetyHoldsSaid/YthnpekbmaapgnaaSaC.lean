/-
 Layer 29, plainly: what is wrong with an output.
-/
import Derived.Test.YthnpekbmaapgnaaMF
namespace Go.Proofs.Ythnpekbmaapgnaa
open Go.RowKit
set_option maxRecDepth 100000
/-- the numbers of the routes that are shown, of the first k -/
def shI (p k : Nat) : List Int := (mems p k).map (fun i : Nat => (i : Int))
/-- these routes -/
def shR (L : Lay) (p k : Nat) : List Rt := (mems p k).filterMap (fun i => L.rt.l[i]?)
theorem shI_zero (p : Nat) : shI p 0 = [] := rfl
theorem shR_zero (L : Lay) (p : Nat) : shR L p 0 = [] := rfl
theorem shI_no {p k : Nat} (h : hasBit p k = false) : shI p (k + 1) = shI p k := by unfold shI; rw [mems_no h]
theorem shR_no {L : Lay} {p k : Nat} (h : hasBit p k = false) : shR L p (k + 1) = shR L p k := by unfold shR; rw [mems_no h]
theorem shI_yes {p k : Nat} (h : hasBit p k = true) : shI p (k + 1) = shI p k ++ [(k : Int)] := by unfold shI; rw [mems_yes h, List.map_append]; rfl
theorem shR_yes {L : Lay} {p k : Nat} {y : Rt} (h : hasBit p k = true) (hy : L.rt.l[k]? = some y) : shR L p (k + 1) = shR L p k ++ [y] := by
 unfold shR
 rw [mems_yes h, List.filterMap_append]
 simp [hy]
theorem shI_len (p k : Nat) : (shI p k).length ≤ k := by unfold shI; rw [List.length_map]; exact mems_len p k
theorem shR_len {L : Lay} {p k : Nat} (hk : k ≤ L.rt.l.length) : (shR L p k).length = (shI p k).length := by
 induction k with
 | zero => rfl
 | succ k ih =>
   have hy : L.rt.l[k]? = some (L.rt.l[k]'(by omega)) := List.getElem?_eq_getElem _
   cases h : hasBit p k with
   | false => rw [shI_no h, shR_no h]; exact ih (by omega)
   | true => rw [shI_yes h, shR_yes h hy, List.length_append, List.length_append, ih (by omega)]; rfl
theorem shR_mem {L : Lay} {p k : Nat} : ∀ r ∈ shR L p k, r ∈ L.rt.l := by
 intro r hr
 unfold shR at hr
 obtain ⟨i, _, hi⟩ := List.mem_filterMap.1 hr
 exact List.mem_of_getElem? hi
/-- number j of what is shown, and its route -/
theorem sh_at {L : Lay} {p k : Nat} (hk : k ≤ L.rt.l.length) {j : Nat} {r : Rt} (h : (shR L p k)[j]? = some r) : ∃ i : Nat, (shI p k)[j]? = some (i : Int) ∧ L.rt.l[i]? = some r := by
 induction k with
 | zero => simp [shR_zero] at h
 | succ k ih =>
   have hy : L.rt.l[k]? = some (L.rt.l[k]'(by omega)) := List.getElem?_eq_getElem _
   have hlen := shR_len (L := L) (p := p) (k := k) (by omega)
   cases hb : hasBit p k with
   | false =>
     rw [shR_no hb] at h
     obtain ⟨i, h1, h2⟩ := ih (by omega) h
     exact ⟨i, by rw [shI_no hb]; exact h1, h2⟩
   | true =>
     rw [shR_yes hb hy] at h
     by_cases hj : j < (shR L p k).length
     ·rw [List.getElem?_append_left hj] at h
      obtain ⟨i, h1, h2⟩ := ih (by omega) h
      exact ⟨i, by rw [shI_yes hb, List.getElem?_append_left (by omega)]; exact h1, h2⟩
     ·have hj2 : j = (shR L p k).length := by
       have := (List.getElem?_eq_some_iff.1 h).1
       simp at this
       omega
      rw [hj2, List.getElem?_append_right (Nat.le_refl _)] at h
      simp at h
      refine ⟨k, ?_, by rw [hy, h]⟩
      rw [hj2, hlen, shI_yes hb, List.getElem?_append_right (Nat.le_refl _)]
      simp
theorem shI_nodup (p k : Nat) : (shI p k).Nodup :=
 List.Pairwise.map _ (fun a b (h : a ≠ b) (e : (a : Int) = (b : Int)) => h (by omega)) (List.Pairwise.filter _ List.nodup_range)
/-- do two of what is shown conflict? -/
def claI (L : Lay) (I : List Int) : Bool := I.any (fun a => I.any (fun b => pairS L a b))
/-- the same, of routes -/
def claR (L : Lay) (R : List Rt) : Bool := (List.range R.length).any (fun i => (List.range i).any (fun k => match R[i]?, R[k]? with | some x, some y => conflictS L x y | _, _ => false))
theorem cla_eq {L : Lay} {p : Nat} (hm : mayS L = true) : claR L (shR L p L.rt.l.length) = claI L (shI p L.rt.l.length) := by
 have hlen := shR_len (L := L) (p := p) (Nat.le_refl _)
 rw [Bool.eq_iff_iff]
 unfold claR claI
 simp only [List.any_eq_true, List.mem_range]
 constructor
 ·rintro ⟨i, hi, k, hk, h⟩
  have e1 := List.getElem?_eq_getElem hi
  have e2 := List.getElem?_eq_getElem (l := shR L p L.rt.l.length) (i := k) (by omega)
  rw [e1, e2] at h
  obtain ⟨a, a1, a2⟩ := sh_at (Nat.le_refl _) e1
  obtain ⟨b, b1, b2⟩ := sh_at (Nat.le_refl _) e2
  have hne : a ≠ b := by
   intro e
   subst e
   have h1 := (List.getElem?_eq_some_iff.1 a1)
   have h2 := (List.getElem?_eq_some_iff.1 b1)
   obtain ⟨h1a, h1b⟩ := h1
   obtain ⟨h2a, h2b⟩ := h2
   have := (List.getElem_inj (shI_nodup p L.rt.l.length) (i := i) (j := k) (h₀ := h1a) (h₁ := h2a)).1 (by rw [h1b, h2b])
   omega
  exact ⟨a, List.mem_of_getElem? a1, b, List.mem_of_getElem? b1, by rw [ps_at hm a2 b2 hne]; exact h⟩
 ·rintro ⟨a, ha, b, hb, h⟩
  obtain ⟨i, hi⟩ := List.getElem?_of_mem ha
  obtain ⟨k, hk⟩ := List.getElem?_of_mem hb
  have hi1 := (List.getElem?_eq_some_iff.1 hi).1
  have hk1 := (List.getElem?_eq_some_iff.1 hk).1
  have e1 : (shR L p L.rt.l.length)[i]? = some ((shR L p L.rt.l.length)[i]'(by omega)) := List.getElem?_eq_getElem _
  have e2 : (shR L p L.rt.l.length)[k]? = some ((shR L p L.rt.l.length)[k]'(by omega)) := List.getElem?_eq_getElem _
  obtain ⟨a', a1, a2⟩ := sh_at (Nat.le_refl _) e1
  obtain ⟨b', b1, b2⟩ := sh_at (Nat.le_refl _) e2
  rw [hi] at a1
  rw [hk] at b1
  injection a1 with a1
  injection b1 with b1
  subst a1
  subst b1
  have hne : a' ≠ b' := by
   intro e
   subst e
   rw [ps_no (fun h => h.2.2.2.2 rfl)] at h
   cases h
  rw [ps_at hm a2 b2 hne] at h
  rcases Nat.lt_trichotomy i k with hik | hik | hik
  ·exact ⟨k, by omega, i, hik, by rw [e1, e2]; show conflictS L _ _ = true; rw [conflict_comm]; exact h⟩
  ·subst hik
   rw [hi] at hk
   injection hk with hk
   exact absurd (by omega) hne
  ·exact ⟨i, by omega, k, hik, by rw [e1, e2]; exact h⟩
/-- is a section of a track of theirs in a set? -/
def occS (o : Nat) (R : List Rt) : Bool := R.any (fun r => r.tr.any (fun s => hasBit o s.toNat))
/-- does a need of theirs not lie as two sets tell? -/
def lieS (n v : Nat) (R : List Rt) : Bool := R.any (fun r => r.nd.any (fun x => !(hasBit (if x.2 then v else n) x.1.toNat)))
def turS (q : Nat) (R : List Rt) : Bool := R.any (fun r => r.nd.any (fun x => hasBit q x.1.toNat != x.2))
def outSA (L : Lay) (p q : Nat) : Bool := !decide (p / pw L.rt.l.length = 0) || !decide (q / pw L.po.l.length = 0)
/-- what is wrong -/
def cycS (L : Lay) (o n v p q : Nat) : Nat :=
 if (checkS L).1 = 0 then (if outSA L p q then 2 else if claI L (shI p L.rt.l.length) then 3 else if occS o (shR L p L.rt.l.length) then 4 else if lieS n v (shR L p L.rt.l.length) then 5 else if turS q (shR L p L.rt.l.length) then 6 else 0) else 1
end Go.Proofs.Ythnpekbmaapgnaa
