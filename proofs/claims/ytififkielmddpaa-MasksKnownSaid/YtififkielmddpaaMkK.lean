/-
  Layer 08: MasksPeace, plainly.
-/
import Derived.Test.YtififkielmddpaaMkH
import Derived.Test.YtififkielmddpaaTpH
namespace Go.Proofs.Ytififkielmddpaa
open Go.RowKit
set_option maxRecDepth 100000
theorem apart_parts {L : Lay} {a b : Rt} (h : conflictS L a b = false) : a.sg ≠ b.sg ∧ (∀ s ∈ a.tr, hasI b.tr s = false) ∧ ∀ q ∈ ptsR a b 0 L.po.l, q = false := by
  unfold conflictS reasonsS at h
  rw [List.any_cons, List.any_append, Bool.or_eq_false_iff, Bool.or_eq_false_iff] at h
  obtain ⟨h1, h2, h3⟩ := h
  refine ⟨fun e => ?_, fun s hs => ?_, fun q hq => ?_⟩
  · simp [e] at h1
  · rw [List.any_eq_false] at h2
    have := h2 _ (List.mem_map.2 ⟨s, hs, rfl⟩)
    simpa using this
  · rw [List.any_eq_false] at h3
    simpa using h3 q hq
theorem apart_tr {L : Lay} {a b : Rt} (h : conflictS L a b = false) {i k : Nat} {s u : Int} (hi : a.tr[i]? = some s) (hk : b.tr[k]? = some u) : s ≠ u := by
  rintro rfl
  have h1 := (apart_parts h).2.1 s (List.mem_of_getElem? hi)
  unfold hasI at h1
  rw [List.any_eq_false] at h1
  have := h1 s (List.mem_of_getElem? hk)
  simp at this
theorem formed_dup {L : Lay} {r : Rt} (h : formedS L r = true) : (r.nd.map (·.1)).Nodup := by
  have : dupN [] (r.po.l ++ r.fl.l) = false := by
    cases hd : dupN [] (r.po.l ++ r.fl.l) with
    | false => rfl
    | true => rw [fs_3 hd] at h; cases h
  rw [dupN_map, dupI_iff] at this
  exact this.1
theorem apart_nd {L : Lay} {a b : Rt} (h : conflictS L a b = false) (ha : formedS L a = true) (hb : formedS L b = true) (oa : RtOk L a) {i k : Nat} {p : Int} {x y : Bool} (hi : a.nd[i]? = some (p, x)) (hk : b.nd[k]? = some (p, y)) : x = y := by
  have m1 := ndAt_mem (formed_dup ha) (List.mem_of_getElem? hi)
  have m2 := ndAt_mem (formed_dup hb) (List.mem_of_getElem? hk)
  have hr : 0 ≤ p ∧ p < (L.po.l.length : Int) := by
    have hm : (p, x) ∈ a.po.l ++ a.fl.l := List.mem_of_getElem? hi
    rcases List.mem_append.1 hm with hm | hm
    · exact belowB_mem oa.qb p (List.mem_map.2 ⟨_, hm, rfl⟩)
    · exact belowB_mem oa.fb p (List.mem_map.2 ⟨_, hm, rfl⟩)
  obtain ⟨j, rfl⟩ : ∃ j : Nat, p = j := ⟨p.toNat, by omega⟩
  obtain ⟨q, hq⟩ : ∃ q, L.po.l[j]? = some q := ⟨_, List.getElem?_eq_getElem (by omega)⟩
  have h1 := ptsR_get (a := a) (b := b) (k := 0) hq
  rw [Nat.zero_add, m1, m2] at h1
  have h2 := (apart_parts h).2.2 _ (List.mem_of_getElem? h1)
  unfold ptBad at h2
  cases x <;> cases y <;> simp at h2 <;> rfl
theorem ok_formed {L : Lay} (h : (checkS L).1 = 0) {r : Rt} (hr : r ∈ L.rt.l) : formedS L r = true := by
  rcases check_cases L with ⟨h1, h2⟩ | ⟨h1, h2, h3⟩ | ⟨h1, h2, z, h3⟩
  · rw [h2] at h; cases h
  · exact h2 r hr
  · rw [h3] at h; cases h
theorem withI_tb (x : Nat) (n : Int) (i : Nat) : (withI x n).testBit i = (x.testBit i || (decide (0 ≤ n ∧ n ≤ 63) && decide (n = (i : Int)))) := by
  unfold withI
  by_cases h : 0 ≤ n ∧ n ≤ 63
  · rw [if_pos h, withBit_or, Nat.testBit_or, pw, Nat.testBit_two_pow, decide_eq_true h, Bool.true_and]
    congr 1
    rw [Bool.eq_iff_iff, decide_eq_true_eq, decide_eq_true_eq]
    omega
  · rw [if_neg h, decide_eq_false h]; simp
theorem fold_tb : ∀ (l : List Int) (x i : Nat), (l.foldl withI x).testBit i = (x.testBit i || (decide (i ≤ 63) && l.any (fun n => decide (n = (i : Int)))))
  | [], x, i => by simp
  | n :: l, x, i => by
    rw [List.foldl_cons, fold_tb l (withI x n) i, withI_tb, List.any_cons]
    by_cases hn : n = (i : Int)
    · have : decide (0 ≤ n ∧ n ≤ 63) = decide (i ≤ 63) := by rw [Bool.eq_iff_iff, decide_eq_true_eq, decide_eq_true_eq]; omega
      rw [this, decide_eq_true hn]
      cases x.testBit i <;> cases decide (i ≤ 63) <;> simp
    · rw [decide_eq_false hn]; simp
theorem ofN_tb {l : List Int} {i : Nat} : (ofN l).testBit i = true ↔ i ≤ 63 ∧ (i : Int) ∈ l := by
  unfold ofN
  rw [fold_tb]
  simp
theorem one_tb {n : Int} {i : Nat} : (withI 0 n).testBit i = true ↔ i ≤ 63 ∧ n = (i : Int) := by
  rw [withI_tb]
  simp
  intro h
  omega
theorem side_tb {l : List (Int × Bool)} {b : Bool} {i : Nat} : (sideS l b).testBit i = true ↔ i ≤ 63 ∧ ((i : Int), b) ∈ l := by
  unfold sideS
  rw [ofN_tb]
  unfold sideL
  simp
theorem low_tb {n i : Nat} : (pw n - 1).testBit i = decide (i < n) := by rw [pw]; exact Nat.testBit_two_pow_sub_one n i
theorem orS_tb {F : Mk → Nat} {l : List Mk} {r b : Nat} : ∀ {k : Nat}, (orS F l r k).testBit b = true → ∃ i x, i < k ∧ inR r i = true ∧ l[i]? = some x ∧ (F x).testBit b = true
  | 0, h => by rw [orS_zero] at h; simp at h
  | k + 1, h => by
    cases hb : inR r k with
    | false =>
      rw [orS_no hb] at h
      obtain ⟨i, x, h1, h2⟩ := orS_tb h
      exact ⟨i, x, by omega, h2⟩
    | true =>
      cases hx : l[k]? with
      | none =>
        have : orS F l r (k + 1) = orS F l r k ||| 0 := by show (if inR r k then _ else _) = _; rw [hb, hx]; rfl
        rw [this, Nat.or_zero] at h
        obtain ⟨i, x, h1, h2⟩ := orS_tb h
        exact ⟨i, x, by omega, h2⟩
      | some x =>
        rw [orS_yes hb hx, Nat.testBit_or, Bool.or_eq_true] at h
        rcases h with h | h
        · obtain ⟨i, y, h1, h2⟩ := orS_tb h
          exact ⟨i, y, by omega, h2⟩
        · exact ⟨k, x, by omega, hb, hx, h⟩
theorem orS_in {F : Mk → Nat} {l : List Mk} {r b i : Nat} {x : Mk} (hi : inR r i = true) (hx : l[i]? = some x) (hb : (F x).testBit b = true) : ∀ {k : Nat}, i < k → (orS F l r k).testBit b = true
  | k + 1, h => by
    by_cases hik : i = k
    · subst hik
      rw [orS_yes hi hx, Nat.testBit_or, hb, Bool.or_true]
    · have ih := orS_in hi hx hb (k := k) (by omega)
      cases hk : inR r k with
      | false => rw [orS_no hk]; exact ih
      | true =>
        cases hy : l[k]? with
        | none =>
          have : orS F l r (k + 1) = orS F l r k ||| 0 := by show (if inR r k then _ else _) = _; rw [hk, hy]; rfl
          rw [this, Nat.or_zero]; exact ih
        | some y => rw [orS_yes hk hy, Nat.testBit_or, ih, Bool.true_or]
theorem and_zero {a b : Nat} (h : ∀ i, a.testBit i = true → b.testBit i = true → False) : a &&& b = 0 := by
  refine Nat.eq_of_testBit_eq fun i => ?_
  rw [Nat.testBit_and, Nat.zero_testBit]
  cases ha : a.testBit i with
  | false => rfl
  | true => cases hb : b.testBit i with
    | false => rfl
    | true => exact (h i ha hb).elim
theorem and_same {a b : Nat} (h : ∀ i, a.testBit i = true → b.testBit i = true) : a &&& b = a := by
  refine Nat.eq_of_testBit_eq fun i => ?_
  rw [Nat.testBit_and]
  cases ha : a.testBit i with
  | false => rfl
  | true => rw [h i ha]; rfl
theorem and_off {a b i : Nat} (h : a &&& b = 0) (ha : a.testBit i = true) : b.testBit i = false := by
  have := congrArg (·.testBit i) h
  simp only [Nat.testBit_and, ha, Bool.true_and, Nat.zero_testBit] at this
  exact this
/-- the routes, cut to those that are there -/
structure Pc (L : Lay) (r : Nat) : Prop where
  ok : (checkS L).1 = 0
  lt : ∀ i, r.testBit i = true → i < L.rt.l.length
theorem Pc.make {L : Lay} (h : (checkS L).1 = 0) (r : Nat) : Pc L (r &&& (pw L.rt.l.length - 1)) := ⟨h, fun i hi => by
  rw [Nat.testBit_and, low_tb, Bool.and_eq_true, decide_eq_true_eq] at hi
  exact hi.2⟩
theorem inR_tb {r i : Nat} : inR r i = (decide (i ≤ 63) && r.testBit i) := by unfold inR; rw [hasBit_test]
theorem mks_rt {L : Lay} {i : Nat} {x : Mk} (h : (mksS L)[i]? = some x) : ∃ y, L.rt.l[i]? = some y ∧ x = mkR L y (rowS L i) := by
  have hlt : i < L.rt.l.length := by have := (List.getElem?_eq_some_iff.1 h).1; rwa [mks_len] at this
  refine ⟨L.rt.l[i], List.getElem?_eq_getElem hlt, ?_⟩
  rw [mks_get (List.getElem?_eq_getElem hlt)] at h
  exact (Option.some.inj h).symm
theorem tr_range {L : Lay} (h : mayS L = true) {y : Rt} (hy : y ∈ L.rt.l) {s : Int} (hs : s ∈ y.tr) : 0 ≤ s ∧ s < (L.se.l.length : Int) := by
  have o := mayS_rt h y hy
  unfold Rt.tr at hs
  rcases List.mem_append.1 hs with hs | hs
  · exact belowB_mem o.pb s hs
  · exact belowB_mem o.ob s hs
theorem nd_range {L : Lay} (h : mayS L = true) {y : Rt} (hy : y ∈ L.rt.l) {n : Int × Bool} (hn : n ∈ y.nd) : 0 ≤ n.1 ∧ n.1 < (L.po.l.length : Int) := by
  have o := mayS_rt h y hy
  unfold Rt.nd at hn
  rcases List.mem_append.1 hn with hn | hn
  · exact belowB_mem o.qb n.1 (List.mem_map.2 ⟨n, hn, rfl⟩)
  · exact belowB_mem o.fb n.1 (List.mem_map.2 ⟨n, hn, rfl⟩)
theorem pc_first {L : Lay} {r i : Nat} {x : Mk} (hp : Pc L r) (h : (mksS L)[i]? = some x) : x.f &&& x.t ≠ 0 := by
  obtain ⟨y, hy, rfl⟩ := mks_rt h
  have hm := List.mem_of_getElem? hy
  have hmay := cs_zero hp.ok
  obtain ⟨q, qs, hq⟩ : ∃ q qs, y.pa.l = q :: qs := by
    cases hpa : y.pa.l with
    | nil => exact absurd hpa (formed_pa (formed_of hp.ok y hm))
    | cons a l => exact ⟨a, l, rfl⟩
  have hin : q ∈ y.tr := by unfold Rt.tr; rw [hq]; simp
  have hr := tr_range hmay hm hin
  have hs := (mayS_small hmay).1
  obtain ⟨k, rfl⟩ : ∃ k : Nat, q = k := ⟨q.toNat, by omega⟩
  intro h0
  have h1 : (mkR L y (rowS L i)).f.testBit k = true := by
    show (firstS y).testBit k = true
    unfold firstS
    rw [hq]
    exact one_tb.2 ⟨by omega, rfl⟩
  have h2 := and_off h0 h1
  have h3 : (mkR L y (rowS L i)).t.testBit k = true := ofN_tb.2 ⟨by omega, hin⟩
  rw [h3] at h2
  cases h2
theorem pc_ahead {L : Lay} {r i : Nat} {x : Mk} (hp : Pc L r) (h : (mksS L)[i]? = some x) : x.a &&& x.t = 0 := by
  obtain ⟨y, hy, rfl⟩ := mks_rt h
  have hf := formed_of hp.ok y (List.mem_of_getElem? hy)
  refine and_zero fun b h1 h2 => ?_
  have h1 : (aheadS L y).testBit b = true := h1
  unfold aheadS at h1
  have e := (one_tb.1 h1).2
  have h2 := (ofN_tb.1 (show (ofN y.tr).testBit b = true from h2)).2
  have : hasI (y.pa.l ++ y.ov.l) (secOf L y.sg) = true := by
    unfold hasI
    rw [List.any_eq_true]
    exact ⟨(b : Int), h2, by rw [e]; simp⟩
  rw [fs_2 this] at hf
  cases hf
theorem pc_sides {L : Lay} {r i : Nat} {x : Mk} (hp : Pc L r) (h : (mksS L)[i]? = some x) : x.n &&& x.r = 0 := by
  obtain ⟨y, hy, rfl⟩ := mks_rt h
  have hf := formed_of hp.ok y (List.mem_of_getElem? hy)
  refine and_zero fun b h1 h2 => ?_
  have h1 := (side_tb.1 (show (sideS y.nd false).testBit b = true from h1)).2
  have h2 := (side_tb.1 (show (sideS y.nd true).testBit b = true from h2)).2
  have e1 := ndAt_mem (formed_dup hf) h1
  have e2 := ndAt_mem (formed_dup hf) h2
  rw [e1] at e2
  cases e2
/-- none of them is in their Clash -/
def peaceB (L : Lay) (r : Nat) : Bool := decide (orS Mk.c (mksS L) r L.rt.l.length &&& r = 0)
theorem pc_row {L : Lay} {r i : Nat} {x : Mk} (_hp : Pc L r) (hq : peaceB L r = true) (hi : inR r i = true) (h : (mksS L)[i]? = some x) : x.c &&& r = 0 := by
  have hq := of_decide_eq_true hq
  refine and_zero fun b h1 h2 => ?_
  have hlt : i < L.rt.l.length := by have := (List.getElem?_eq_some_iff.1 h).1; rwa [mks_len] at this
  have := and_off hq (orS_in (F := Mk.c) hi h h1 hlt)
  rw [h2] at this
  cases this
theorem pc_apart {L : Lay} {r i j : Nat} {a b : Rt} (hp : Pc L r) (hq : peaceB L r = true) (hi : inR r i = true) (hj : inR r j = true) (hne : i ≠ j) (ha : L.rt.l[i]? = some a) (hb : L.rt.l[j]? = some b) : conflictS L a b = false := by
  have h := pc_row hp hq hi (mks_get ha)
  have hjlt : j < L.rt.l.length := (List.getElem?_eq_some_iff.1 hb).1
  rw [inR_tb, Bool.and_eq_true] at hj
  have h1 : (rowS L i).testBit j = false := by
    cases hc : (rowS L i).testBit j with
    | false => rfl
    | true =>
      have := and_off (show (rowS L i) &&& r = 0 from h) hc
      rw [hj.2] at this
      cases this
  rw [← hasBit_test, rowS_test, decide_eq_true hjlt, decide_eq_true hne, Bool.true_and, Bool.true_and, cfS_at ha hb] at h1
  exact h1
theorem pc_track {L : Lay} {r i : Nat} {x : Mk} (hp : Pc L r) (hq : peaceB L r = true) (hi : inR r i = true) (h : (mksS L)[i]? = some x) : x.t &&& orS Mk.t (mksS L) r i = 0 := by
  refine and_zero fun b h1 h2 => ?_
  obtain ⟨j, z, hj1, hj2, hj3, hj4⟩ := orS_tb h2
  obtain ⟨y, hy, rfl⟩ := mks_rt h
  obtain ⟨u, hu, rfl⟩ := mks_rt hj3
  have hc := pc_apart hp hq hi hj2 (by omega) hy hu
  have m1 := (ofN_tb.1 (show (ofN y.tr).testBit b = true from h1)).2
  have m2 := (ofN_tb.1 (show (ofN u.tr).testBit b = true from hj4)).2
  have h3 := (apart_parts hc).2.1 _ m1
  unfold hasI at h3
  rw [List.any_eq_false] at h3
  have := h3 _ m2
  simp at this
theorem pc_need {L : Lay} {r : Nat} (hp : Pc L r) (hq : peaceB L r = true) : orS Mk.n (mksS L) r L.rt.l.length &&& orS Mk.r (mksS L) r L.rt.l.length = 0 := by
  refine and_zero fun b h1 h2 => ?_
  obtain ⟨i, x, hi1, hi2, hi3, hi4⟩ := orS_tb h1
  obtain ⟨j, z, hj1, hj2, hj3, hj4⟩ := orS_tb h2
  obtain ⟨y, hy, rfl⟩ := mks_rt hi3
  obtain ⟨u, hu, rfl⟩ := mks_rt hj3
  have m1 := (side_tb.1 (show (sideS y.nd false).testBit b = true from hi4)).2
  have m2 := (side_tb.1 (show (sideS u.nd true).testBit b = true from hj4)).2
  have my := List.mem_of_getElem? hy
  have mu := List.mem_of_getElem? hu
  have fy := formed_of hp.ok y my
  have fu := formed_of hp.ok u mu
  by_cases hne : i = j
  · subst hne
    rw [hy] at hu
    obtain rfl := Option.some.inj hu
    have e1 := ndAt_mem (formed_dup fy) m1
    have e2 := ndAt_mem (formed_dup fy) m2
    rw [e1] at e2
    cases e2
  · have hc := pc_apart hp hq hi2 hj2 hne hy hu
    obtain ⟨k1, h1⟩ := List.getElem?_of_mem m1
    obtain ⟨k2, h2⟩ := List.getElem?_of_mem m2
    have := apart_nd hc fy fu (mayS_rt (cs_zero hp.ok) y my) h1 h2
    cases this
theorem pc_tracks {L : Lay} {r k : Nat} (hp : Pc L r) : orS Mk.t (mksS L) r k &&& (pw L.se.l.length - 1) = orS Mk.t (mksS L) r k := by
  refine and_same fun b h1 => ?_
  obtain ⟨i, x, _, _, hi3, hi4⟩ := orS_tb h1
  obtain ⟨y, hy, rfl⟩ := mks_rt hi3
  have m1 := (ofN_tb.1 (show (ofN y.tr).testBit b = true from hi4)).2
  have := tr_range (cs_zero hp.ok) (List.mem_of_getElem? hy) m1
  rw [low_tb, decide_eq_true_eq]
  omega
theorem pc_points {L : Lay} {r k : Nat} (hp : Pc L r) : (orS Mk.n (mksS L) r k ||| orS Mk.r (mksS L) r k) &&& (pw L.po.l.length - 1) = orS Mk.n (mksS L) r k ||| orS Mk.r (mksS L) r k := by
  refine and_same fun b h1 => ?_
  rw [low_tb, decide_eq_true_eq]
  rw [Nat.testBit_or, Bool.or_eq_true] at h1
  rcases h1 with h1 | h1
  all_goals
    obtain ⟨i, x, _, _, hi3, hi4⟩ := orS_tb h1
    obtain ⟨y, hy, rfl⟩ := mks_rt hi3
  · have := nd_range (cs_zero hp.ok) (List.mem_of_getElem? hy) (side_tb.1 (show (sideS y.nd false).testBit b = true from hi4)).2
    dsimp only at this
    omega
  · have := nd_range (cs_zero hp.ok) (List.mem_of_getElem? hy) (side_tb.1 (show (sideS y.nd true).testBit b = true from hi4)).2
    dsimp only at this
    omega
end Go.Proofs.Ytififkielmddpaa
