/-
 Walks: the document's Conflict.
-/
import Derived.Test.YtpohoannggdbjaaMC
import Derived.Deep.RegionHeld3
namespace Go.Proofs.Ytpohoannggdbjaa
open Go.RowKit
set_option maxRecDepth 100000
theorem cf_sg {L : Lay} {a b : Rt} (h : a.sg = b.sg) : conflictS L a b = true := by unfold conflictS reasonsS; rw [decide_eq_true h]; rfl
theorem cf_tr {L : Lay} {a b : Rt} {k : Nat} {x : Int} (h : a.tr[k]? = some x) (hu : hasI b.tr x = true) : conflictS L a b = true := by
 unfold conflictS reasonsS
 rw [List.any_cons, List.any_append, Bool.or_eq_true, Bool.or_eq_true]
 exact .inr (.inl (List.any_eq_true.2 ⟨true, List.mem_map.2 ⟨x, List.mem_of_getElem? h, hu⟩, rfl⟩))
theorem cf_pt {L : Lay} {a b : Rt} {k : Nat} {p : BA × Int} (h : L.po.l[k]? = some p) (hb : ptBad a.tr b.tr (ndAt a.nd (k : Int)) (ndAt b.nd (k : Int)) p.2 = true) : conflictS L a b = true := by
 unfold conflictS reasonsS
 rw [List.any_cons, List.any_append, Bool.or_eq_true, Bool.or_eq_true]
 have := ptsR_get (a := a) (b := b) (k := 0) h
 rw [Nat.zero_add, hb] at this
 exact .inr (.inr (List.any_eq_true.2 ⟨true, List.mem_of_getElem? this, rfl⟩))
theorem cf_no {L : Lay} {a b : Rt} (h1 : a.sg ≠ b.sg) (h2 : ∀ (k : Nat) (x : Int), a.tr[k]? = some x → hasI b.tr x = false) (h3 : ∀ (k : Nat) (p : BA × Int), L.po.l[k]? = some p → ptBad a.tr b.tr (ndAt a.nd (k : Int)) (ndAt b.nd (k : Int)) p.2 = false) : conflictS L a b = false := by
 unfold conflictS reasonsS
 rw [List.any_cons, List.any_append, decide_eq_false h1]
 show (false || _) = false
 rw [Bool.false_or, Bool.or_eq_false_iff]
 constructor
 ·rw [List.any_eq_false]
  intro v hv
  obtain ⟨x, hx, rfl⟩ := List.mem_map.1 hv
  obtain ⟨k, hk⟩ := List.getElem?_of_mem hx
  rw [h2 k x hk]
  decide
 ·rw [List.any_eq_false]
  intro v hv
  obtain ⟨k, hk⟩ := List.getElem?_of_mem hv
  have hk2 : k < L.po.l.length := by rw [← ptsR_len a b L.po.l 0]; exact (List.getElem?_eq_some_iff.1 hk).1
  have h4 := ptsR_get (a := a) (b := b) (k := 0) (List.getElem?_eq_getElem hk2)
  rw [hk, Nat.zero_add, h3 k _ (List.getElem?_eq_getElem hk2)] at h4
  injection h4 with h4
  rw [h4]
  decide
theorem num_cases {X : Option Bool} {z : Int} (h : ((ndNum X : Nat) : Int) = z) : (X = none ∧ z = 0) ∨ (X = some false ∧ z = 1) ∨ (X = some true ∧ z = 2) := by
 rcases X with _ | (_ | _)
 ·exact .inl ⟨rfl, h.symm⟩
 ·exact .inr (.inl ⟨rfl, h.symm⟩)
 ·exact .inr (.inr ⟨rfl, h.symm⟩)
/-- what lies in memory while two routes are looked at -/
structure CoAt (w0 w : World) (g0 g1 g2 : Nat) (C A B : Array Value) : Prop where
 lay : w.heap[g0]? = some (.cells C 27)
 a : w.heap[g1]? = some (.cells A 58)
 b : w.heap[g2]? = some (.cells B 58)
 below : Below w0.heap.size w0 w
theorem CoAt.step {w0 w w' : World} {g0 g1 g2 : Nat} {C A B : Array Value} (h : CoAt w0 w g0 g1 g2 C A B) (hb : Below w.heap.size w w') : CoAt w0 w' g0 g1 g2 C A B := ⟨blk_keep hb h.lay, blk_keep hb h.a, blk_keep hb h.b, below_on h.below hb⟩
attribute [local irreducible] hasI ndAt Sl.v conflictS ptBad Rt.tr Rt.nd
end Go.Proofs.Ytpohoannggdbjaa
