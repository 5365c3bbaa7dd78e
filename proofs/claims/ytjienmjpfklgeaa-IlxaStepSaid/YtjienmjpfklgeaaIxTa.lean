/-
 Layer 10: what conflicts, plainly.
-/
import Derived.Test.YtjienmjpfklgeaaIxT
namespace Go.Proofs.Ytjienmjpfklgeaa
open Go.RowKit
set_option maxRecDepth 100000
/-- does route k conflict with x, and is it locked? -/
def cfD (L : Lay) (x : Rt) (s : St) (k : Nat) : Bool := hasBit s.lk k && ((L.rt.l[k]?).map (conflictS L x)).getD false
theorem cfd_at {L : Lay} {x y : Rt} {s : St} {k : Nat} (h : L.rt.l[k]? = some y) : cfD L x s k = (hasBit s.lk k && conflictS L x y) := by unfold cfD; rw [h]; rfl
theorem rg_no {f : Nat → Bool} {k : Nat} (h : (List.range k).any f = false) (h2 : f k = false) : (List.range (k + 1)).any f = false := by rw [List.range_succ, List.any_append, h]; simp [h2]
theorem rg_yes {f : Nat → Bool} {n k : Nat} (hk : k < n) (h : f k = true) : (List.range n).any f = true := List.any_eq_true.2 ⟨k, List.mem_range.2 hk, h⟩
theorem rg_zero {f : Nat → Bool} : (List.range 0).any f = false := rfl
theorem cfd_any {L : Lay} {x : Rt} {s : St} {n : Nat} (hm : mayS L = true) (hx : L.rt.l[n]? = some x) (hl : hasBit s.lk n = false) : (List.range L.rt.l.length).any (cfD L x s) = (cofL L (n : Int)).any (fun k => hasBit s.lk k.toNat) := by
 have h4 := (mayS_small hm).2.2.2
 rw [Bool.eq_iff_iff, List.any_eq_true, List.any_eq_true]
 constructor
 ·rintro ⟨k, hk, h⟩
  have hk := List.mem_range.1 hk
  have hy := List.getElem?_eq_getElem hk
  rw [cfd_at hy, Bool.and_eq_true] at h
  have hne : n ≠ k := fun e => by rw [e, h.1] at hl; cases hl
  refine ⟨(k : Int), cof_mem.2 ⟨k, rfl, by omega, ?_⟩, by rw [Int.toNat_natCast]; exact h.1⟩
  rw [ps_at hm hx hy hne]
  exact h.2
 ·rintro ⟨k, hk, h⟩
  obtain ⟨m, rfl, hm1, hp⟩ := cof_mem.1 hk
  rw [Int.toNat_natCast] at h
  have hne : n ≠ m := fun e => by rw [e, h] at hl; cases hl
  have hlt : m < L.rt.l.length := by omega
  have hy := List.getElem?_eq_getElem hlt
  rw [ps_at hm hx hy hne] at hp
  exact ⟨m, List.mem_range.2 hlt, by rw [cfd_at hy, h, hp]; rfl⟩
theorem nd_badT (T : Tb) (s : St) (oc : Nat) (n : Int × Bool) : ndBad T s oc n = ((hasBit s.pt n.1.toNat != n.2) && hasBit oc (T.li.getD n.1.toNat 0).toNat) := rfl
theorem rwl_cf (L : Lay) (i : Nat) (x : Rt) : (rwL L i x).cf = cofL L (i : Int) := rfl
theorem li_at {L : Lay} {j : Nat} {p : BA × Int} (h : L.po.l[j]? = some p) : (tbL L).li.getD j 0 = p.2 := by rw [List.getD_eq_getElem?_getD, tbl_pt h]; rfl
end Go.Proofs.Ytjienmjpfklgeaa
