/-
 Layer 29: what an interlocking shows of a right state is not wrong, plainly.
-/
import Derived.Test.YthnpekbmaapgnaaSaO
import Derived.Test.YthnpekbmaapgnaaIyP
namespace Go.Proofs.Ythnpekbmaapgnaa
open Go.RowKit
set_option maxRecDepth 100000
theorem lt_pw {x n : Nat} (h : ∀ i, hasBit x i = true → i < n) : x < pw n := by
 refine Nat.lt_pow_two_of_testBit x fun i hi => ?_
 cases hb : x.testBit i with
 | false => rfl
 | true =>
   have := h i (by rw [hasBit_test]; exact hb)
   omega
theorem shR_bit {L : Lay} {p k : Nat} {r : Rt} (h : r ∈ shR L p k) : ∃ i, i < k ∧ hasBit p i = true ∧ L.rt.l[i]? = some r := by
 unfold shR at h
 obtain ⟨i, hi, hr⟩ := List.mem_filterMap.1 h
 exact ⟨i, (mems_mem.1 hi).1, (mems_mem.1 hi).2, hr⟩
theorem shI_bit {p k : Nat} {a : Int} (h : a ∈ shI p k) : ∃ i : Nat, a = i ∧ i < k ∧ hasBit p i = true := by
 unfold shI at h
 obtain ⟨i, hi, rfl⟩ := List.mem_map.1 h
 exact ⟨i, rfl, (mems_mem.1 hi).1, (mems_mem.1 hi).2⟩
theorem pro_at {L : Lay} {t : St} {oc no re OP i : Nat} {r : Rt} (hO : outS (tbL L) t oc no re = OP) (hb : hasBit OP i = true) (hr : L.rt.l[i]? = some r) :
 hasBit t.lk i = true ∧ (∀ k ∈ r.tr, hasBit oc k.toNat = false) ∧ ∀ m ∈ r.nd, hasBit (if m.2 then sideN re no else sideN no re) m.1.toNat = true := by
 rw [← hO] at hb
 obtain ⟨_, x, hx, h1, h2, h3⟩ := pro_parts hb
 rw [tbl_at hr] at hx
 cases hx
 exact ⟨h1, h2, h3⟩
theorem cyc_safe {L : Lay} {t : St} {oc no re OP : Nat} (hc : (checkS L).1 = 0) (hR : Rg (tbL L) t) (hO : outS (tbL L) t oc no re = OP) : cycS L oc (sideN no re) (sideN re no) OP t.pt = 0 := by
 refine cyc_0 hc ?_ ?_ ?_ ?_ ?_
 ·have h1 : OP < pw L.rt.l.length := lt_pw (fun i hi => by
   rw [← hO] at hi
   have := (pro_parts hi).1
   rw [tbl_len] at this
   exact this)
  have h2 : t.pt < pw L.po.l.length := lt_pw (fun i hi => by
   have := hR.pt i hi
   rw [tbl_li] at this
   exact this)
  unfold outSA
  rw [Nat.div_eq_of_lt h1, Nat.div_eq_of_lt h2]; rfl
 ·unfold claI
  rw [List.any_eq_false]
  intro a ha
  rw [Bool.not_eq_true, List.any_eq_false]
  intro b hb hp
  obtain ⟨i, rfl, hi, hbi⟩ := shI_bit ha
  obtain ⟨k, rfl, hk, hbk⟩ := shI_bit hb
  have gi := List.getElem?_eq_getElem hi
  have gk := List.getElem?_eq_getElem hk
  have l1 := (pro_at hO hbi gi).1
  have l2 := (pro_at hO hbk gk).1
  have h3 := (ln_iff.1 (hR.li i _ (tbl_at gi)) l1).1 (k : Int) ((cf_pair hc).2 ⟨hk, hp⟩)
  rw [Int.toNat_natCast, l2] at h3
  cases h3
 ·unfold occS
  rw [List.any_eq_false]
  intro r hr
  obtain ⟨i, _, hb, hg⟩ := shR_bit hr
  rw [Bool.not_eq_true, List.any_eq_false]
  intro k hk
  rw [(pro_at hO hb hg).2.1 k hk]
  decide
 ·unfold lieS
  rw [List.any_eq_false]
  intro r hr
  obtain ⟨i, _, hb, hg⟩ := shR_bit hr
  rw [Bool.not_eq_true, List.any_eq_false]
  intro m hm
  rw [(pro_at hO hb hg).2.2 m hm]
  decide
 ·unfold turS
  rw [List.any_eq_false]
  intro r hr
  obtain ⟨i, _, hb, hg⟩ := shR_bit hr
  rw [Bool.not_eq_true, List.any_eq_false]
  intro m hm
  have h3 := (ln_iff.1 (hR.li i _ (tbl_at hg)) (pro_at hO hb hg).1).2 m hm
  rw [h3]
  simp
end Go.Proofs.Ythnpekbmaapgnaa
