/-
  Layer 06, plainly: why two routes conflict.
-/
import Derived.Test.YtjienmjpfklgeaaMC
namespace Go.Proofs.Ytjienmjpfklgeaa
open Go.RowKit

/-- how needs want a point: not at all, or to a side (true: reverse), as the first of them says -/
def ndAt : List (Int × Bool) → Int → Option Bool
  | [], _ => none
  | n :: l, p => if n.1 = p then some n.2 else ndAt l p
theorem ndAt_append (l m : List (Int × Bool)) (p : Int) : ndAt (l ++ m) p = (ndAt l p).or (ndAt m p) := by
  induction l with
  | nil => rfl
  | cons n l ih =>
    show (if n.1 = p then some n.2 else ndAt (l ++ m) p) = (if n.1 = p then some n.2 else ndAt l p).or (ndAt m p)
    by_cases h : n.1 = p
    · rw [if_pos h, if_pos h]; rfl
    · rw [if_neg h, if_neg h, ih]
theorem ndAt_some {l : List (Int × Bool)} {p : Int} {v : Bool} (h : ndAt l p = some v) : (p, v) ∈ l := by
  induction l with
  | nil => cases h
  | cons n l ih =>
    by_cases hp : n.1 = p
    · have e : ndAt (n :: l) p = some n.2 := if_pos hp
      rw [e] at h
      injection h with h
      subst h
      subst hp
      exact List.mem_cons_self
    · have e : ndAt (n :: l) p = ndAt l p := if_neg hp
      rw [e] at h
      exact List.mem_cons_of_mem _ (ih h)
/-- of one need for a point at most, each need is the first one -/
theorem ndAt_mem {l : List (Int × Bool)} {p : Int} {v : Bool} (hn : (l.map (·.1)).Nodup) (h : (p, v) ∈ l) : ndAt l p = some v := by
  induction l with
  | nil => cases h
  | cons n l ih =>
    rw [List.map_cons, List.nodup_cons] at hn
    by_cases hp : n.1 = p
    · have e : ndAt (n :: l) p = some n.2 := if_pos hp
      rw [e]
      rcases List.mem_cons.1 h with h | h
      · rw [← h]
      · exact absurd (List.mem_map.2 ⟨_, h, hp.symm⟩) hn.1
    · have e : ndAt (n :: l) p = ndAt l p := if_neg hp
      rw [e]
      rcases List.mem_cons.1 h with h | h
      · exact absurd (by rw [← h]) hp
      · exact ih hn.2 h
/-- is a point a reason? -/
def ptBad (t u : List Int) (x y : Option Bool) (s : Int) : Bool :=
  ((x.isSome && y.isSome) || (x.isSome && hasI u s) || (y.isSome && hasI t s)) && !((x.isSome == y.isSome) && (x.getD false == y.getD false))
theorem ptBad_comm (t u : List Int) (x y : Option Bool) (s : Int) : ptBad t u x y s = ptBad u t y x s := by
  unfold ptBad
  cases x with
  | none => cases y with
    | none => rfl
    | some b => cases hasI t s <;> cases hasI u s <;> cases b <;> rfl
  | some a => cases y with
    | none => cases hasI t s <;> cases hasI u s <;> cases a <;> rfl
    | some b => cases hasI t s <;> cases hasI u s <;> cases a <;> cases b <;> rfl
/-- the document's form -/
def ndNum : Option Bool → Nat
  | none => 0
  | some false => 1
  | some true => 2
theorem ptBad_num (t u : List Int) (x y : Option Bool) (s : Int) : ptBad t u x y s = (decide (ndNum x ≠ ndNum y) && (decide (0 < ndNum x ∧ 0 < ndNum y) || decide (0 < ndNum x) && hasI u s || decide (0 < ndNum y) && hasI t s)) := by
  unfold ptBad
  rcases x with _ | (_ | _) <;> rcases y with _ | (_ | _) <;> cases hasI t s <;> cases hasI u s <;> rfl
def Rt.tr (r : Rt) : List Int := r.pa.l ++ r.ov.l
def Rt.nd (r : Rt) : List (Int × Bool) := r.po.l ++ r.fl.l
/-- the reasons that lie in points, from the kth on -/
def ptsR (a b : Rt) : Nat → List (BA × Int) → List Bool
  | _, [] => []
  | k, p :: l => ptBad a.tr b.tr (ndAt a.nd k) (ndAt b.nd k) p.2 :: ptsR a b (k + 1) l
theorem ptsR_comm (a b : Rt) : ∀ (l : List (BA × Int)) (k : Nat), ptsR a b k l = ptsR b a k l := by
  intro l
  induction l with
  | nil => intro k; rfl
  | cons p l ih =>
    intro k
    show ptBad a.tr b.tr _ _ _ :: ptsR a b (k + 1) l = ptBad b.tr a.tr _ _ _ :: ptsR b a (k + 1) l
    rw [ih, ptBad_comm]
/-- all reasons, each whether it holds -/
def reasonsS (L : Lay) (a b : Rt) : List Bool := decide (a.sg = b.sg) :: (a.tr.map (hasI b.tr) ++ ptsR a b 0 L.po.l)
def conflictS (L : Lay) (a b : Rt) : Bool := (reasonsS L a b).any id
theorem any_has (t u : List Int) : (t.map (hasI u)).any id = (u.map (hasI t)).any id := by
  have h : ∀ (t u : List Int), (t.map (hasI u)).any id = true ↔ ∃ x, x ∈ t ∧ x ∈ u := by
    intro t u
    rw [List.any_eq_true]
    constructor
    · rintro ⟨b, hb, h⟩
      obtain ⟨x, hx, rfl⟩ := List.mem_map.1 hb
      unfold hasI at h
      simp at h
      exact ⟨x, hx, h⟩
    · rintro ⟨x, hx, hu⟩
      refine ⟨_, List.mem_map.2 ⟨x, hx, rfl⟩, ?_⟩
      unfold hasI
      simp [hu]
  rw [Bool.eq_iff_iff, h, h]
  constructor
  · rintro ⟨x, h1, h2⟩; exact ⟨x, h2, h1⟩
  · rintro ⟨x, h1, h2⟩; exact ⟨x, h2, h1⟩
/-- one with another one, as that with it -/
theorem conflict_comm (L : Lay) (a b : Rt) : conflictS L a b = conflictS L b a := by
  unfold conflictS reasonsS
  rw [List.any_cons, List.any_cons, List.any_append, List.any_append, any_has, ptsR_comm]
  congr 1
  show decide (a.sg = b.sg) = decide (b.sg = a.sg)
  rw [decide_eq_decide]
  exact eq_comm
theorem ptsR_get {a b : Rt} : ∀ {l : List (BA × Int)} {k j : Nat} {p : BA × Int}, l[j]? = some p → (ptsR a b k l)[j]? = some (ptBad a.tr b.tr (ndAt a.nd ((k + j : Nat) : Int)) (ndAt b.nd ((k + j : Nat) : Int)) p.2) := by
  intro l
  induction l with
  | nil => intro k j p h; simp at h
  | cons q l ih =>
    intro k j p h
    cases j with
    | zero => simp at h; subst h; rfl
    | succ j =>
      have := ih (k := k + 1) (by simpa using h)
      rw [show k + 1 + j = k + (j + 1) by omega] at this
      exact this
theorem ptsR_len (a b : Rt) : ∀ (l : List (BA × Int)) (k : Nat), (ptsR a b k l).length = l.length := by
  intro l
  induction l with
  | nil => intro k; rfl
  | cons p l ih => intro k; show (ptsR a b (k + 1) l).length + 1 = _; rw [ih]; rfl
end Go.Proofs.Ytjienmjpfklgeaa
