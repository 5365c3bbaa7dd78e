/-
 Layer 10: the table of a layout, plainly.
-/
import Derived.Test.YtpohoannggdbjaaIxC
import Derived.Test.YtpohoannggdbjaaMC
import Derived.Test.YtpohoannggdbjaaME
namespace Go.Proofs.Ytpohoannggdbjaa
open Go.RowKit
set_option maxRecDepth 100000
/-- a line of a layout's table -/
def rwL (L : Lay) (i : Nat) (r : Rt) : Rw := ⟨r.pa.l.headD 0, secOf L r.sg, r.tr, r.nd, cofL L (i : Int)⟩
def tbL (L : Lay) : Tb := ⟨L.rt.l.mapIdx (rwL L), L.po.l.map (fun p => p.2)⟩
theorem tbl_len (L : Lay) : (tbL L).rw.length = L.rt.l.length := by simp [tbL]
theorem tbl_li (L : Lay) : (tbL L).li.length = L.po.l.length := by simp [tbL]
theorem tbl_at {L : Lay} {i : Nat} {r : Rt} (h : L.rt.l[i]? = some r) : (tbL L).rw[i]? = some (rwL L i r) := by
 unfold tbL
 show (L.rt.l.mapIdx (rwL L))[i]? = _
 rw [List.getElem?_mapIdx, h]; rfl
theorem tbl_none {L : Lay} {i : Nat} (h : L.rt.l.length ≤ i) : (tbL L).rw[i]? = none := List.getElem?_eq_none (by rw [tbl_len]; exact h)
theorem tbl_take {L : Lay} {i : Nat} {r : Rt} (h : L.rt.l[i]? = some r) : (tbL L).rw.take (i + 1) = (tbL L).rw.take i ++ [rwL L i r] := by rw [List.take_add_one, tbl_at h]; rfl
theorem tbl_pt {L : Lay} {k : Nat} {p : BA × Int} (h : L.po.l[k]? = some p) : (tbL L).li[k]? = some p.2 := by
 unfold tbL
 show (L.po.l.map (fun p => p.2))[k]? = _
 rw [List.getElem?_map, h]; rfl
theorem tbl_ptk {L : Lay} {k : Nat} {p : BA × Int} (h : L.po.l[k]? = some p) : (tbL L).li.take (k + 1) = (tbL L).li.take k ++ [p.2] := by rw [List.take_add_one, tbl_pt h]; rfl
theorem t_formed {L : Lay} (h : (checkS L).1 = 0) : ∀ r ∈ L.rt.l, formedS L r = true := by
 refine bad_none.1 ?_
 by_cases hb : 0 ≤ badS L
 ·rw [cs_bad (cs_zero h) rfl hb] at h; cases h
 ·omega
theorem t_pa {L : Lay} {r : Rt} (h : formedS L r = true) : r.pa.l ≠ [] := by
 intro he
 rw [fs_0 (by rw [he]; rfl)] at h
 cases h
theorem t_sec {L : Lay} (h : mayS L = true) : (∀ p ∈ L.po.l, 0 ≤ p.2 ∧ p.2 < (L.se.l.length : Int)) ∧ (∀ p ∈ L.sg.l, 0 ≤ p.2 ∧ p.2 < (L.se.l.length : Int)) := by
 unfold mayS ptsFrom at h
 simp only [Bool.and_eq_true] at h
 obtain ⟨_, ⟨⟨_, _, h1⟩, _, h2⟩, _⟩ := h
 exact ⟨fun p hp => belowB_mem h1 p.2 (List.mem_map.2 ⟨p, hp, rfl⟩), fun p hp => belowB_mem h2 p.2 (List.mem_map.2 ⟨p, hp, rfl⟩)⟩
theorem t_nd {L : Lay} (h : mayS L = true) : ∀ r ∈ L.rt.l, ∀ n ∈ r.nd, 0 ≤ n.1 ∧ n.1 < (L.po.l.length : Int) := by
 intro r hr n hn
 have o := mayS_rt h r hr
 unfold Rt.nd at hn
 rcases List.mem_append.1 hn with hn | hn
 ·exact belowB_mem o.qb n.1 (List.mem_map.2 ⟨n, hn, rfl⟩)
 ·exact belowB_mem o.fb n.1 (List.mem_map.2 ⟨n, hn, rfl⟩)
theorem t_tr {L : Lay} (h : mayS L = true) : ∀ r ∈ L.rt.l, ∀ n ∈ r.tr, 0 ≤ n ∧ n < (L.se.l.length : Int) := by
 intro r hr n hn
 have o := mayS_rt h r hr
 unfold Rt.tr at hn
 rcases List.mem_append.1 hn with hn | hn
 ·exact belowB_mem o.pb n hn
 ·exact belowB_mem o.ob n hn
theorem t_sg {L : Lay} (h : mayS L = true) : ∀ r ∈ L.rt.l, 0 ≤ secOf L r.sg ∧ secOf L r.sg < (L.se.l.length : Int) := by
 intro r hr
 have o := mayS_rt h r hr
 obtain ⟨k, hk⟩ : ∃ k : Nat, r.sg = k := ⟨r.sg.toNat, by have := o.s0; omega⟩
 have hl : k < L.sg.l.length := by have := o.s1; omega
 rw [hk, secOf_at (List.getElem?_eq_getElem hl)]
 exact (t_sec h).2 _ (List.getElem_mem hl)
theorem cof_mem {L : Lay} {n k : Int} : k ∈ cofL L n ↔ ∃ m : Nat, k = m ∧ m < min L.rt.l.length 64 ∧ pairS L n (m : Int) = true := by
 unfold cofL cofN
 simp only [List.mem_map, List.mem_filter, List.mem_range]
 exact ⟨fun ⟨m, ⟨h1, h2⟩, h3⟩ => ⟨m, h3.symm, h1, h2⟩, fun ⟨m, h3, h1, h2⟩ => ⟨m, ⟨h1, h2⟩, h3.symm⟩⟩
theorem tbl_rw {L : Lay} {x : Rw} (hx : x ∈ (tbL L).rw) : ∃ (i : Nat) (r : Rt), L.rt.l[i]? = some r ∧ x = rwL L i r := by
 obtain ⟨i, hi, rfl⟩ := List.getElem_of_mem hx
 have hl : i < L.rt.l.length := by rw [tbl_len] at hi; exact hi
 refine ⟨i, _, List.getElem?_eq_getElem hl, ?_⟩
 have := tbl_at (L := L) (List.getElem?_eq_getElem hl)
 rw [List.getElem?_eq_getElem hi] at this
 exact Option.some.inj this
theorem tbl_ok {L : Lay} (h : (checkS L).1 = 0) : TbOk (tbL L) := by
 have hm := cs_zero h
 obtain ⟨z1, z2, z3, z4⟩ := mayS_small hm
 refine ⟨by rw [tbl_len]; exact z4, by rw [tbl_li]; exact z2, fun x hx => ?_, fun s hs => ?_⟩
 ·obtain ⟨i, r, hr, rfl⟩ := tbl_rw hx
  have hmem := List.mem_of_getElem? hr
  have hf := t_pa (t_formed h r hmem)
  refine ⟨?_, ?_, fun s hs => ?_, fun n hn => ?_, fun k hk => ?_⟩
  ·have := t_tr hm r hmem (r.pa.l.headD 0) (by
    unfold Rt.tr
    refine List.mem_append_left _ ?_
    cases hp : r.pa.l with
    | nil => exact absurd hp hf
    | cons a l => exact List.mem_cons_self)
   show 0 ≤ r.pa.l.headD 0 ∧ r.pa.l.headD 0 ≤ 63
   omega
  ·have := t_sg hm r hmem
   show 0 ≤ secOf L r.sg ∧ secOf L r.sg ≤ 63
   omega
  ·have := t_tr hm r hmem s hs; omega
  ·rw [tbl_li]; exact t_nd hm r hmem n hn
  ·rw [tbl_len]
   obtain ⟨m, rfl, h1, _⟩ := cof_mem.1 hk
   omega
 ·unfold tbL at hs
  obtain ⟨p, hp, rfl⟩ := List.mem_map.1 hs
  have := (t_sec hm).1 p hp
  omega
end Go.Proofs.Ytpohoannggdbjaa
