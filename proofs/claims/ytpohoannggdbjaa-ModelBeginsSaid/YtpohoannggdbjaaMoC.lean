/-
 Layer 28, plainly: the states to which what explains what was shown leads.
-/
import Derived.Test.YtpohoannggdbjaaMoB
import Derived.Test.YtpohoannggdbjaaIxC
namespace Go.Proofs.Ytpohoannggdbjaa
open Go.RowKit
set_option maxRecDepth 100000
def zSt : St := ⟨0, 0, 0, fun _ => 0, 0⟩
/-- an input, with its commands, and where they lie -/
structure Iv where
 oc : Nat
 no : Nat
 re : Nat
 a : Option Addr
 len : Nat
 cap : Nat
 cl : List (Nat × Int)
/-- what was shown -/
structure Sh where
 st : Bool
 p : Nat
 q : Nat
def stepT (T : Tb) (x : Iv) (s : St) : St := nextS T s x.oc x.cl
def shows (T : Tb) (x : Iv) (y : Sh) (s : St) : Bool := y.st || (outS T (stepT T x s) x.oc x.no x.re == y.p && (stepT T x s).pt == y.q)
/-- what one state leads to -/
def leads (T : Tb) (x : Iv) (y : Sh) (s : St) : List St := (if y.st then [s] else []) ++ (if shows T x y s then [stepT T x s] else [])
/-- the states after a cycle -/
def cycL (T : Tb) (x : Iv) (y : Sh) (K : List St) : List St := K.flatMap (leads T x y)
/-- the states after i cycles -/
def reachN (T : Tb) (X : List Iv) (Y : List Sh) : Nat → List St
 | 0 => [zSt]
 | i + 1 => match X[i]?, Y[i]? with
   | some x, some y => cycL T x y (reachN T X Y i)
   | _, _ => reachN T X Y i
/-- K, each once, are the states M, whatever their order -/
def SameSt (K M : List St) : Prop := ∀ v : Value, v ∈ K.map stV ↔ v ∈ M.map stV
theorem SameSt.refl (K : List St) : SameSt K K := fun _ => Iff.rfl
theorem SameSt.trans {A B C : List St} (h : SameSt A B) (k : SameSt B C) : SameSt A C := fun v => (h v).trans (k v)
theorem SameSt.nil {K M : List St} (h : SameSt K M) : K = [] ↔ M = [] := by
 constructor
 ·rintro rfl
  cases M with
  | nil => rfl
  | cons m M => exact absurd ((h (stV m)).2 (by simp)) (by simp)
 ·rintro rfl
  cases K with
  | nil => rfl
  | cons m M => exact absurd ((h (stV m)).1 (by simp)) (by simp)
theorem SameSt.symm {A B : List St} (h : SameSt A B) : SameSt B A := fun v => (h v).symm
theorem add_same (K : List St) (s : St) : SameSt (addS K s) (K ++ [s]) := by
 unfold addS
 split
 ·rename_i h
  obtain ⟨t, ht, he⟩ := List.any_eq_true.1 h
  have hv := eqs_val.1 he
  intro v
  rw [List.map_append, List.mem_append]
  constructor
  ·exact .inl
  ·rintro (h | h)
   ·exact h
   ·rw [List.map_cons, List.map_nil, List.mem_singleton] at h
    rw [h, hv]
    exact List.mem_map.2 ⟨t, ht, rfl⟩
 ·exact SameSt.refl _
theorem add_len (K : List St) (s : St) : (addS K s).length ≤ K.length + 1 := by
 unfold addS
 split
 ·omega
 ·rw [List.length_append]; exact Nat.le_refl _
theorem app_same {A B C D : List St} (h : SameSt A B) (k : SameSt C D) : SameSt (A ++ C) (B ++ D) := by
 intro v
 rw [List.map_append, List.map_append, List.mem_append, List.mem_append, h v, k v]
theorem perm_same {A B : List St} (h : A.Perm B) : SameSt A B := fun _ => (h.map stV).mem_iff
/-- a cycle sees of a state its value alone -/
theorem next_val {T : Tb} (hT : T.rw.length ≤ 64) {s t : St} (h : stV s = stV t) (oc : Nat) (l : List (Nat × Int)) : nextS T s oc l = nextS T t oc l := by
 have he := eqs_val.2 h
 unfold eqS at he
 simp only [Bool.and_eq_true, beq_iff_eq, List.all_eq_true, List.mem_range] at he
 obtain ⟨h1, h2, h3, h4, h5⟩ := he
 have ht : tidyS T.rw.length T.li.length s = tidyS T.rw.length T.li.length t := by
  unfold tidyS
  rw [h1, h2, h3, h5]
  congr 1
  funext n
  by_cases hn : n < 64
  ·rw [h4 n hn]
  ·have hb : hasBit (t.ca &&& (t.lk &&& (pw T.rw.length - 1))) n = false := by
    rw [hasBit_test, Nat.testBit_and, Nat.testBit_and, pw, Nat.testBit_two_pow_sub_one, decide_eq_false (by omega)]
    simp
   rw [hb]; rfl
 show rousS T oc (tidyS T.rw.length T.li.length s).us (comsG canS T oc (l.take 8) (tidyS T.rw.length T.li.length s)) T.rw.length = rousS T oc (tidyS T.rw.length T.li.length t).us (comsG canS T oc (l.take 8) (tidyS T.rw.length T.li.length t)) T.rw.length
 rw [ht]
theorem leads_val {T : Tb} (hT : T.rw.length ≤ 64) (x : Iv) (y : Sh) {s t : St} (h : stV s = stV t) : (leads T x y s).map stV = (leads T x y t).map stV := by
 have hn := next_val hT h x.oc x.cl
 unfold leads shows stepT
 rw [hn, List.map_append, List.map_append]
 congr 1
 cases y.st with
 | false => rfl
 | true =>
   show [stV s] = [stV t]
   rw [h]
theorem flat_mem {T : Tb} (x : Iv) (y : Sh) (K : List St) (v : Value) : v ∈ (cycL T x y K).map stV ↔ ∃ s ∈ K, v ∈ (leads T x y s).map stV := by
 unfold cycL
 rw [List.map_flatMap, List.mem_flatMap]
theorem cyc_same {T : Tb} (hT : T.rw.length ≤ 64) (x : Iv) (y : Sh) {K M : List St} (h : SameSt K M) : SameSt (cycL T x y K) (cycL T x y M) := by
 intro v
 rw [flat_mem, flat_mem]
 constructor
 ·rintro ⟨s, hs, hv⟩
  obtain ⟨t, ht, he⟩ := List.mem_map.1 ((h (stV s)).1 (List.mem_map.2 ⟨s, hs, rfl⟩))
  exact ⟨t, ht, by rw [leads_val hT x y he]; exact hv⟩
 ·rintro ⟨s, hs, hv⟩
  obtain ⟨t, ht, he⟩ := List.mem_map.1 ((h (stV s)).2 (List.mem_map.2 ⟨s, hs, rfl⟩))
  exact ⟨t, ht, by rw [leads_val hT x y he]; exact hv⟩
/-- one state more has been gone through -/
theorem cyc_more {T : Tb} {x : Iv} {y : Sh} {D N : List St} (s : St) (h : SameSt N (cycL T x y D)) : SameSt (if shows T x y s then addS (if y.st then addS N s else N) (stepT T x s) else (if y.st then addS N s else N)) (cycL T x y (D ++ [s])) := by
 have e : cycL T x y (D ++ [s]) = cycL T x y D ++ leads T x y s := by
  unfold cycL
  rw [List.flatMap_append]
  simp
 rw [e]
 unfold leads
 have h1 : SameSt (if y.st then addS N s else N) (cycL T x y D ++ (if y.st then [s] else [])) := by
  cases y.st with
  | false => simpa using h
  | true => exact (add_same N s).trans (app_same h (SameSt.refl _))
 rw [← List.append_assoc]
 cases shows T x y s with
 | false => simpa using h1
 | true => exact (add_same _ _).trans (app_same h1 (SameSt.refl _))
theorem more_len {T : Tb} {x : Iv} {y : Sh} {N : List St} {k : Nat} (s : St) (h : N.length ≤ 2 * k) : (if shows T x y s then addS (if y.st then addS N s else N) (stepT T x s) else (if y.st then addS N s else N)).length ≤ 2 * (k + 1) := by
 have h1 : (if y.st then addS N s else N).length ≤ 2 * k + 1 := by
  cases y.st with
  | false => show N.length ≤ _; omega
  | true => have := add_len N s; show (addS N s).length ≤ _; omega
 split
 ·have := add_len (if y.st then addS N s else N) (stepT T x s); omega
 ·omega
theorem reach_succ {T : Tb} {X : List Iv} {Y : List Sh} {i : Nat} {x : Iv} {y : Sh} (hx : X[i]? = some x) (hy : Y[i]? = some y) : reachN T X Y (i + 1) = cycL T x y (reachN T X Y i) := by
 show (match X[i]?, Y[i]? with
  | some x, some y => cycL T x y (reachN T X Y i)
  | _, _ => reachN T X Y i) = _
 rw [hx, hy]
/-- no state, no state later -/
theorem cyc_nil (T : Tb) (x : Iv) (y : Sh) : cycL T x y [] = [] := rfl
theorem reach_less {T : Tb} {X : List Iv} {Y : List Sh} {i : Nat} (h : reachN T X Y (i + 1) ≠ []) : reachN T X Y i ≠ [] := by
 intro h0
 apply h
 show (match X[i]?, Y[i]? with
  | some x, some y => cycL T x y (reachN T X Y i)
  | _, _ => reachN T X Y i) = _
 rw [h0]
 cases X[i]? <;> cases Y[i]? <;> rfl
theorem reach_le {T : Tb} {X : List Iv} {Y : List Sh} {k : Nat} : ∀ d, reachN T X Y (k + d) ≠ [] → reachN T X Y k ≠ []
 | 0, h => h
 | d + 1, h => reach_le d (reach_less h)
/-- the first cycles see the first inputs alone -/
theorem reach_take {T : Tb} {X : List Iv} {Y : List Sh} {k : Nat} : ∀ i, i ≤ k → reachN T (X.take k) (Y.take k) i = reachN T X Y i
 | 0, _ => rfl
 | i + 1, h => by
   have h1 : (X.take k)[i]? = X[i]? := by rw [List.getElem?_take, if_pos (by omega)]
   have h2 : (Y.take k)[i]? = Y[i]? := by rw [List.getElem?_take, if_pos (by omega)]
   show (match (X.take k)[i]?, (Y.take k)[i]? with
    | some x, some y => cycL T x y (reachN T (X.take k) (Y.take k) i)
    | _, _ => reachN T (X.take k) (Y.take k) i) = _
   rw [h1, h2, reach_take i (by omega)]
   rfl
/-- where all is stopped there is a state, always -/
theorem reach_stop {T : Tb} {X : List Iv} {Y : List Sh} (hs : ∀ y ∈ Y, y.st = true) : ∀ i, reachN T X Y i ≠ []
 | 0 => by show [zSt] ≠ []; simp
 | i + 1 => by
   have ih := reach_stop (T := T) (X := X) hs i
   cases hx : X[i]? with
   | none =>
     show (match X[i]?, Y[i]? with
      | some x, some y => cycL T x y (reachN T X Y i)
      | _, _ => reachN T X Y i) ≠ []
     rw [hx]; exact ih
   | some x =>
     cases hy : Y[i]? with
     | none =>
       show (match X[i]?, Y[i]? with
        | some x, some y => cycL T x y (reachN T X Y i)
        | _, _ => reachN T X Y i) ≠ []
       rw [hx, hy]; exact ih
     | some y =>
       rw [reach_succ hx hy]
       intro h0
       obtain ⟨s, l, hl⟩ := List.exists_cons_of_ne_nil ih
       rw [hl] at h0
       unfold cycL at h0
       rw [List.flatMap_cons, List.append_eq_nil_iff] at h0
       have h1 := h0.1
       unfold leads at h1
       rw [hs y (List.mem_of_getElem? hy)] at h1
       simp at h1
end Go.Proofs.Ytpohoannggdbjaa
