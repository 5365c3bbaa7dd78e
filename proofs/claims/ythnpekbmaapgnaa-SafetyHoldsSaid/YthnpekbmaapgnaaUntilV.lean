/-
 Several loads of a region that draws its order may be taken first, each if its cell is kept as long as no operation that waits for it has come up: what comes behind a load may write its cell. Over any program.
-/
import Derived.Test.YthnpekbmaapgnaaUntil
namespace Go.Proofs.Ythnpekbmaapgnaa
section
variable {P : Program} {ops : Array Oper} {Q : Exit → Act → World → Prop} {md : Region.Mode}

/-- has an operation come up that waits for operation i? -/
def deadB (md : Region.Mode) (ops : Array Oper) (i : Nat) (listed : Array Bool) : Bool := (List.range ops.size).any (fun k => listed.getD k false && waits md ops i k)
theorem dead_iff {i : Nat} {listed : Array Bool} : deadB md ops i listed = true ↔ ∃ k, k < ops.size ∧ listed.getD k false = true ∧ waits md ops i k = true := by
 unfold deadB
 rw [List.any_eq_true]
 constructor
 ·rintro ⟨k, hk, h⟩
  rw [Bool.and_eq_true] at h
  exact ⟨k, List.mem_range.1 hk, h.1, h.2⟩
 ·rintro ⟨k, hk, h1, h2⟩
  exact ⟨k, List.mem_range.2 hk, by rw [h1, h2]; rfl⟩
theorem getD_ne {l : Array Bool} {j k : Nat} (hjk : ¬ j = k) : (l.setIfInBounds j true).getD k false = l.getD k false := by
 rw [Array.getD_eq_getD_getElem?, Array.getD_eq_getD_getElem?, Array.getElem?_setIfInBounds_ne hjk]
theorem getD_set {l : Array Bool} {j k : Nat} (h : (l.setIfInBounds j true).getD k false = true) : k = j ∨ l.getD k false = true := by
 by_cases hjk : j = k
 ·exact .inl hjk.symm
 ·right
  rw [getD_ne hjk] at h
  exact h
theorem set_getD {l : Array Bool} {j k : Nat} (h : l.getD k false = true) : (l.setIfInBounds j true).getD k false = true := by
 by_cases hjk : j = k
 ·subst hjk
  have hlt : j < l.size := by
   apply Nat.lt_of_not_le
   intro hge
   simp [Array.getElem?_eq_none hge] at h
  simp [hlt]
 ·rw [getD_ne hjk]
  exact h
theorem dead_set {i j : Nat} {listed : Array Bool} (h : deadB md ops i listed = true) : deadB md ops i (listed.setIfInBounds j true) = true := by
 obtain ⟨k, h1, h2, h3⟩ := dead_iff.1 h
 exact dead_iff.2 ⟨k, h1, set_getD h2, h3⟩
/-- an operation that does not wait for i makes nothing dead -/
theorem dead_not {i j : Nat} {listed : Array Bool} (hw : ¬ waits md ops i j = true) (h : deadB md ops i (listed.setIfInBounds j true) = true) : deadB md ops i listed = true := by
 obtain ⟨k, h1, h2, h3⟩ := dead_iff.1 h
 rcases getD_set h2 with rfl | h2
 ·exact absurd h3 hw
 ·exact dead_iff.2 ⟨k, h1, h2, h3⟩
/-- whatever order is picked from here on, and each S holds as long as nothing has come up that waits for its load -/
def wpAnyV (P : Program) (md : Region.Mode) (ops : Array Oper) (Q : Exit → Act → World → Prop) (T : List (Nat × (World → Prop))) : Nat → Array Bool → Act → World → Prop
 | 0, listed, a, w => Region.ready md ops listed = [] ∧ Q .normal a w
 | fuel + 1, listed, a, w =>
   (Region.ready md ops listed = [] → Q .normal a w) ∧
   ∀ j ∈ Region.ready md ops listed, wpOp P ops Q j (fun a' w' => (∀ t ∈ T, deadB md ops t.1 (listed.setIfInBounds j true) = true ∨ t.2 w') ∧ wpAnyV P md ops Q T fuel (listed.setIfInBounds j true) a' w') a w
theorem wpAny_of_V {T : List (Nat × (World → Prop))} : ∀ (fuel : Nat) (listed : Array Bool) (a : Act) (w : World), wpAnyV P md ops Q T fuel listed a w → wpAny P md ops Q fuel listed a w
 | 0, _, _, _, h => h
 | fuel + 1, _, _, _, h => ⟨h.1, fun j hj => wpOp_mono (fun a' w' h' => wpAny_of_V fuel _ a' w' h'.2) (h.2 j hj)⟩
theorem wpAnyV_less {T : List (Nat × (World → Prop))} {x : Nat × (World → Prop)} : ∀ (fuel : Nat) (listed : Array Bool) (a : Act) (w : World), wpAnyV P md ops Q (x :: T) fuel listed a w → wpAnyV P md ops Q T fuel listed a w
 | 0, _, _, _, h => h
 | fuel + 1, _, _, _, h => ⟨h.1, fun j hj => wpOp_mono (fun a' w' h' => ⟨fun t ht => h'.1 t (List.mem_cons_of_mem _ ht), wpAnyV_less fuel _ a' w' h'.2⟩) (h.2 j hj)⟩
theorem wpAnyV_until {T : List (Nat × (World → Prop))} {S : World → Prop} {i : Nat} {oi : Oper} {v : Value} (hi : ops[i]? = some oi) (hsel : ∀ (j : Nat) (o : Oper) cs b, ops[j]? = some o → o.op ≠ .select cs b)
 (hQ : ∀ c a w, Q (.panic c) (a.put oi.dst v) w → Q (.panic c) a w) (hT : ∀ t ∈ T, ¬ waits md ops t.1 i = true) :
 ∀ (fuel : Nat) (listed : Array Bool) (a : Act) (w : World),
  (∀ j oj, ops[j]? = some oj → j ≠ i → listed.getD j true = false → (∀ e ∈ oj.after, Region.binds md e = true → e.on ≠ i) → oi.apart ops oj = true) →
  i ∈ Region.ready md ops listed → YieldsIf P ops S oi v a → S w → deadB md ops i listed = false → (∀ t ∈ T, deadB md ops t.1 listed = true ∨ t.2 w) →
  wpAnyV P md ops Q ((i, S) :: T) fuel (listed.setIfInBounds i true) (a.put oi.dst v) w → wpAnyV P md ops Q T (fuel + 1) listed a w := by
 intro fuel
 induction fuel with
 | zero =>
   intro listed a w _ hr hy hS _ hc H
   refine ⟨fun h => (by rw [h] at hr; cases hr), fun j hj => ?_⟩
   by_cases hji : j = i
   ·subst hji
    exact hy.wpOp hi hS ⟨fun t ht => (hc t ht).imp dead_set id, H⟩
   ·have := ready_mono hj hji
    rw [H.1] at this
    cases this
 | succ fuel ih =>
   intro listed a w hfree hr hy hS hd hc H
   refine ⟨fun h => (by rw [h] at hr; cases hr), fun j hj => ?_⟩
   by_cases hji : j = i
   ·subst hji
    exact hy.wpOp hi hS ⟨fun t ht => (hc t ht).imp dead_set id, wpAnyV_less _ _ _ _ H⟩
   ·have h1 := H.2 j (ready_mono hj hji)
    obtain ⟨hjun, oj, hoj, hall⟩ := mem_ready.1 hj
    have hnot : ∀ e ∈ oj.after, Region.binds md e = true → e.on ≠ i := fun e he hb heq => by
     have h1 := hall e he hb
     have h0 := (mem_ready.1 hr).1
     rw [heq] at h1
     rcases Nat.lt_or_ge i listed.size with h' | h'
     ·simp [h'] at h0 h1; rw [h0] at h1; cases h1
     ·simp [Array.getElem?_eq_none h'] at h1
    have hnw : ¬ waits md ops i j = true := not_waits hoj hnot
    have h2 := wpOp_putIf hoj (hfree j oj hoj hji hjun hnot) (fun cs b => hsel i oi cs b hi) (fun cs b => hsel j oj cs b hoj) hQ hy h1
    have hfree' : ∀ k ok, ops[k]? = some ok → k ≠ i → (listed.setIfInBounds j true).getD k true = false →
     (∀ e ∈ ok.after, Region.binds md e = true → e.on ≠ i) → oi.apart ops ok = true := fun k ok hk hki hun hno => by
     refine hfree k ok hk hki ?_ hno
     by_cases hjk : j = k
     ·subst hjk; exact hjun
     ·rw [getD_set_ne true hjk] at hun; exact hun
    have hself : ¬ waits md ops i i = true := by
     refine not_waits hi (fun e he hb heq => ?_)
     obtain ⟨h0, o0, ho0, h0a⟩ := mem_ready.1 hr
     rw [hi] at ho0
     injection ho0 with ho0
     subst ho0
     have h1 := h0a e he hb
     rw [heq] at h1
     rcases Nat.lt_or_ge i listed.size with h' | h'
     ·simp [h'] at h0 h1; rw [h0] at h1; cases h1
     ·simp [Array.getElem?_eq_none h'] at h1
    refine wpOp_mono (fun a' w' h3 => ?_) h2
    obtain ⟨hy', hcond, hrest⟩ := h3
    have hc' : ∀ t ∈ T, deadB md ops t.1 (listed.setIfInBounds j true) = true ∨ t.2 w' := fun t ht => by
     rcases hcond t (List.mem_cons_of_mem _ ht) with h | h
     ·left
      rw [Array.setIfInBounds_comm _ _ (fun e => hji e.symm)] at h
      exact dead_not (hT t ht) h
     ·exact .inr h
    have hd' : deadB md ops i (listed.setIfInBounds j true) = false := by
     cases hx : deadB md ops i (listed.setIfInBounds j true) with
     | false => rfl
     | true => rw [dead_not hnw hx] at hd; cases hd
    have hS' : S w' := by
     rcases hcond (i, S) List.mem_cons_self with h | h
     ·rw [Array.setIfInBounds_comm _ _ (fun e => hji e.symm)] at h
      have := dead_not hself h
      rw [hd'] at this
      cases this
     ·exact h
    refine ⟨hc', ih (listed.setIfInBounds j true) a' w' hfree' (ready_mono hr (Ne.symm hji)) hy' hS' hd' hc' ?_⟩
    rw [Array.setIfInBounds_comm _ _ hji]
    exact hrest
theorem wpAnyV_take {T : List (Nat × (World → Prop))} {i : Nat} {oi : Oper} {v : Value} {fuel : Nat} {listed : Array Bool} {a : Act} {w : World} (S : World → Prop) (hi : ops[i]? = some oi)
 (hs : Region.noSelect ops = true) (hf : Region.free md ops listed i = true) (hr : (Region.ready md ops listed).contains i = true)
 (hQ : ∀ c a w, Q (.panic c) (a.put oi.dst v) w → Q (.panic c) a w) (hT : ∀ t ∈ T, ¬ waits md ops t.1 i = true) (hd : deadB md ops i listed = false) (hy : YieldsIf P ops S oi v a) (hS : S w) (hc : ∀ t ∈ T, deadB md ops t.1 listed = true ∨ t.2 w)
 (h : wpAnyV P md ops Q ((i, S) :: T) fuel (listed.setIfInBounds i true) (a.put oi.dst v) w) : wpAnyV P md ops Q T (fuel + 1) listed a w :=
 wpAnyV_until hi (Region.noSelect_spec hs) hQ hT fuel listed a w (Region.free_spec hi hf) (by simpa using hr) hy hS hd hc h
theorem wpAnyV_done {T : List (Nat × (World → Prop))} {listed : Array Bool} {a : Act} {w : World} (hr : Region.ready md ops listed = []) (h : Q .normal a w) : ∀ fuel, wpAnyV P md ops Q T fuel listed a w
 | 0 => ⟨hr, h⟩
 | _ + 1 => ⟨fun _ => h, by rw [hr]; simp⟩
/-- all operations that may come up next, each to be walked -/
def AllReadyV (P : Program) (md : Region.Mode) (ops : Array Oper) (Q : Exit → Act → World → Prop) (T : List (Nat × (World → Prop))) (fuel : Nat) (listed : Array Bool) (a : Act) (w : World) (rs : List Nat) : Prop :=
 ∀ j ∈ rs, wpOp P ops Q j (fun a' w' => (∀ t ∈ T, deadB md ops t.1 (listed.setIfInBounds j true) = true ∨ t.2 w') ∧ wpAnyV P md ops Q T fuel (listed.setIfInBounds j true) a' w') a w
theorem wpAnyV_ready {T : List (Nat × (World → Prop))} {rs : List Nat} {fuel : Nat} {listed : Array Bool} {a : Act} {w : World} (hr : Region.ready md ops listed = rs) (hne : rs ≠ [])
 (h : AllReadyV P md ops Q T fuel listed a w rs) : wpAnyV P md ops Q T (fuel + 1) listed a w :=
 ⟨fun h0 => absurd (hr.symm.trans h0) hne, fun j hj => h j (by rw [← hr]; exact hj)⟩
theorem AllReadyV.nil {T : List (Nat × (World → Prop))} {fuel : Nat} {listed : Array Bool} {a : Act} {w : World} : AllReadyV P md ops Q T fuel listed a w [] := fun _ h => by cases h
theorem AllReadyV.cons {T : List (Nat × (World → Prop))} {j : Nat} {o : Oper} {rs : List Nat} {fuel : Nat} {listed : Array Bool} {a : Act} {w : World} (ho : ops[j]? = some o) (hg : o.guard = none)
 (h : ∀ K : Act → World → Prop, (∀ a' w', (∀ t ∈ T, deadB md ops t.1 (listed.setIfInBounds j true) = true ∨ t.2 w') → wpAnyV P md ops Q T fuel (listed.setIfInBounds j true) a' w' → K a' w') → o.wp P a w K Q)
 (hrest : AllReadyV P md ops Q T fuel listed a w rs) : AllReadyV P md ops Q T fuel listed a w (j :: rs) := by
 intro k hk
 rcases List.mem_cons.1 hk with rfl | hk
 ·exact wpOp_step ho (fun K hK => by rw [if_pos (by simp [Region.wanted, hg])]; exact h K (fun a' w' h1 h2 => hK a' w' ⟨h1, h2⟩))
 ·exact hrest k hk
theorem wpAnyV_re {T : List (Nat × (World → Prop))} {w : World} {F : Nat} {l : Array Bool} {a : Act} (F' : Nat) (l' : Array Bool) (hF : F = F') (hl : l = l') (h : wpAnyV P md ops Q T F' l' a w) : wpAnyV P md ops Q T F l a w := by rw [hF, hl]; exact h
end
end Go.Proofs.Ythnpekbmaapgnaa
