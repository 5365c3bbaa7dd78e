/-
 Layer 10, plainly: of right states the next one is right, and what is shown is safe.
-/
import Derived.Test.YthnpekbmaapgnaaIyA
namespace Go.Proofs.Ythnpekbmaapgnaa
open Go.RowKit
set_option maxRecDepth 100000
theorem hb_and (a b i : Nat) : hasBit (a &&& b) i = (hasBit a i && hasBit b i) := by rw [hasBit_test, hasBit_test, hasBit_test, Nat.testBit_and]
theorem has_wo {s n : Nat} (hn : n ≤ 63) (hs : s < 18446744073709551616) (i : Nat) : hasBit (woBit s n) i = (hasBit s i && !decide (n = i)) := by
 rw [hasBit_test, hasBit_test, ← woBit_and s n hn hs, Nat.testBit_and, all_test n i hn]
 cases hb : s.testBit i with
 | false => rfl
 | true => simp [lt_test hs hb]
theorem has_flip (s n i : Nat) : hasBit (flipB s n) i = (hasBit s i != decide (n = i)) := by
 unfold flipB
 rw [hasBit_test, hasBit_test, Nat.testBit_xor, pw, Nat.testBit_two_pow]
theorem ext_and {a m : Nat} : (a &&& m = a) ↔ ∀ i, hasBit a i = true → hasBit m i = true := by
 constructor
 ·intro h i hi
  rw [← h, hb_and] at hi
  simp only [Bool.and_eq_true] at hi
  exact hi.2
 ·intro h
  refine Nat.eq_of_testBit_eq fun i => ?_
  rw [Nat.testBit_and]
  cases ha : a.testBit i with
  | false => rfl
  | true =>
    have := h i (by rw [hasBit_test]; exact ha)
    rw [hasBit_test] at this
    rw [this]; rfl
theorem has_low (P i : Nat) : hasBit (pw P - 1) i = decide (i < P) := by
 rw [hasBit_test, pw, Nat.testBit_two_pow_sub_one]
theorem ext_low {a P : Nat} : (a &&& (pw P - 1) = a) ↔ ∀ i, hasBit a i = true → i < P := by
 rw [ext_and]
 constructor
 ·intro h i hi
  have := h i hi
  rw [has_low] at this
  exact of_decide_eq_true this
 ·intro h i hi
  rw [has_low]
  exact decide_eq_true (h i hi)
theorem ln_iff {s : St} {n : Nat} {x : Rw} : lnOk s n x = true ↔ (hasBit s.lk n = true → (∀ k ∈ x.cf, hasBit s.lk k.toNat = false) ∧ ∀ m ∈ x.nd, hasBit s.pt m.1.toNat = m.2) := by
 unfold lnOk
 cases h : hasBit s.lk n with
 | false => simp
 | true => simp
theorem right_all {T : Tb} {s : St} : ∀ k, rightK T s k = true ↔ ∀ n, n < k → ∀ x, T.rw[n]? = some x → lnOk s n x = true
 | 0 => ⟨fun _ n hn => by omega, fun _ => rfl⟩
 | k + 1 => by
   have ih := right_all (T := T) (s := s) k
   show (rightK T s k && ((T.rw[k]?).map (lnOk s k)).getD true) = true ↔ _
   rw [Bool.and_eq_true, ih]
   constructor
   ·rintro ⟨h1, h2⟩ n hn x hx
    by_cases e : n = k
    ·subst e
     rw [hx] at h2
     exact h2
    ·exact h1 n (by omega) x hx
   ·intro h
    refine ⟨fun n hn x hx => h n (by omega) x hx, ?_⟩
    cases hx : T.rw[k]? with
    | none => rfl
    | some x => exact h k (by omega) x hx
/-- what a right state is, bit by bit -/
structure Rg (T : Tb) (s : St) : Prop where
 ok : s.ok
 lk : ∀ n, hasBit s.lk n = true → n < T.rw.length
 us : ∀ n, hasBit s.us n = true → hasBit s.lk n = true
 ca : ∀ n, hasBit s.ca n = true → hasBit s.lk n = true
 t0 : ∀ n, n < 64 → hasBit s.ca n = false → s.tm n = 0
 tm : ∀ n, n < 64 → s.tm n ≤ 20
 pt : ∀ p, hasBit s.pt p = true → p < T.li.length
 li : ∀ n x, T.rw[n]? = some x → lnOk s n x = true
theorem rg_of {T : Tb} {s : St} (ho : s.ok) (h : rgtS T s = true) : Rg T s := by
 unfold rgtS eqS at h
 simp only [Bool.and_eq_true, beq_iff_eq, List.all_eq_true, List.mem_range] at h
 obtain ⟨⟨h1, h2, h3, h4, h5⟩, h6⟩ := h
 have h1 : s.lk &&& (pw T.rw.length - 1) = s.lk := h1
 have h2 : s.us &&& (s.lk &&& (pw T.rw.length - 1)) = s.us := h2
 have h3 : s.ca &&& (s.lk &&& (pw T.rw.length - 1)) = s.ca := h3
 have h4 : ∀ n, n < 64 → (if hasBit (s.ca &&& (s.lk &&& (pw T.rw.length - 1))) n then min (s.tm n) 20 else 0) = s.tm n := h4
 have h5 : s.pt &&& (pw T.li.length - 1) = s.pt := h5
 rw [h3] at h4
 rw [h1] at h2 h3
 refine ⟨ho, ext_low.1 h1, ext_and.1 h2, ext_and.1 h3, fun n hn hc => ?_, fun n hn => ?_, ext_low.1 h5, fun n x hx => (right_all _).1 h6 n (List.getElem?_eq_some_iff.1 hx).1 x hx⟩
 ·have := h4 n hn
  rw [hc] at this
  exact this.symm
 ·have := h4 n hn
  split at this
  ·omega
  ·omega
theorem Rg.e1 {T : Tb} {s : St} (h : Rg T s) : s.lk &&& (pw T.rw.length - 1) = s.lk := ext_low.2 h.lk
theorem Rg.e2 {T : Tb} {s : St} (h : Rg T s) : s.us &&& (s.lk &&& (pw T.rw.length - 1)) = s.us := by rw [h.e1]; exact ext_and.2 h.us
theorem Rg.e3 {T : Tb} {s : St} (h : Rg T s) : s.ca &&& (s.lk &&& (pw T.rw.length - 1)) = s.ca := by rw [h.e1]; exact ext_and.2 h.ca
theorem Rg.e5 {T : Tb} {s : St} (h : Rg T s) : s.pt &&& (pw T.li.length - 1) = s.pt := ext_low.2 h.pt
theorem Rg.e4 {T : Tb} {s : St} (h : Rg T s) {n : Nat} (hn : n < 64) : (tidyS T.rw.length T.li.length s).tm n = s.tm n := by
 show (if hasBit (s.ca &&& (s.lk &&& (pw T.rw.length - 1))) n then min (s.tm n) 20 else 0) = s.tm n
 rw [h.e3]
 cases hc : hasBit s.ca n with
 | false => exact (h.t0 n hn hc).symm
 | true => exact Nat.min_eq_left (h.tm n hn)
theorem rg_to {T : Tb} {s : St} (h : Rg T s) : rgtS T s = true := by
 unfold rgtS eqS
 simp only [Bool.and_eq_true, beq_iff_eq, List.all_eq_true, List.mem_range]
 exact ⟨⟨h.e1, h.e2, h.e3, fun n hn => h.e4 hn, h.e5⟩, (right_all _).2 (fun n _ x hx => h.li n x hx)⟩
theorem rg_tidy {T : Tb} {s : St} (h : Rg T s) : Rg T (tidyS T.rw.length T.li.length s) := by
 have e1 : (tidyS T.rw.length T.li.length s).lk = s.lk := h.e1
 have e2 : (tidyS T.rw.length T.li.length s).us = s.us := h.e2
 have e3 : (tidyS T.rw.length T.li.length s).ca = s.ca := h.e3
 have e5 : (tidyS T.rw.length T.li.length s).pt = s.pt := h.e5
 refine ⟨tidy_ok _ _ h.ok, by rw [e1]; exact h.lk, by rw [e1, e2]; exact h.us, by rw [e1, e3]; exact h.ca, fun n hn hc => ?_, fun n hn => ?_, by rw [e5]; exact h.pt, fun n x hx => ?_⟩
 ·rw [h.e4 hn]; rw [e3] at hc; exact h.t0 n hn hc
 ·rw [h.e4 hn]; exact h.tm n hn
 ·have := h.li n x hx
  unfold lnOk at this ⊢
  rw [e1, e5]
  exact this
/-- what a table must be for it -/
structure TbR (T : Tb) : Prop where
 ok : TbOk T
 self : ∀ (n : Nat) (x : Rw), T.rw[n]? = some x → ¬ (n : Int) ∈ x.cf
 sym : ∀ (n k : Nat) (x y : Rw), T.rw[n]? = some x → T.rw[k]? = some y → (k : Int) ∈ x.cf → (n : Int) ∈ y.cf
 nd : ∀ x ∈ T.rw, (x.nd.map (·.1)).Nodup
 same : ∀ (n k : Nat) (x y : Rw) (p : Int) (a b : Bool), T.rw[n]? = some x → T.rw[k]? = some y → n ≠ k → ¬ (k : Int) ∈ x.cf → (p, a) ∈ x.nd → (p, b) ∈ y.nd → a = b
theorem ptl_cons (m : Int × Bool) (l : List (Int × Bool)) (p : Nat) : ptL (m :: l) p = ptL l (if m.2 then withBit p m.1.toNat else woBit p m.1.toNat) := rfl
theorem ptl_one {p : Nat} (hp : p < 18446744073709551616) {q : Nat} (hq : q ≤ 63) (b : Bool) (j : Nat) : hasBit (if b then withBit p q else woBit p q) j = (if q = j then b else hasBit p j) := by
 cases b with
 | true =>
   rw [if_pos rfl, has_with]
   by_cases e : q = j
   ·rw [if_pos e, decide_eq_true e]; simp
   ·rw [if_neg e, decide_eq_false e]; simp
 | false =>
   rw [if_neg (by decide), has_wo hq hp]
   by_cases e : q = j
   ·rw [if_pos e, decide_eq_true e]; simp
   ·rw [if_neg e, decide_eq_false e]; simp
theorem ptl_lt1 {p : Nat} (hp : p < 18446744073709551616) {q : Nat} (hq : q ≤ 63) (b : Bool) : (if b then withBit p q else woBit p q) < 18446744073709551616 := by
 cases b with
 | true => exact withBit_lt _ _ hq hp
 | false => exact Nat.lt_of_le_of_lt (woBit_le _ _) hp
theorem ptl_out {j : Nat} : ∀ (l : List (Int × Bool)) (p : Nat), p < 18446744073709551616 → (∀ m ∈ l, 0 ≤ m.1 ∧ m.1 ≤ 63) → (∀ m ∈ l, m.1.toNat ≠ j) → hasBit (ptL l p) j = hasBit p j
 | [], _, _, _, _ => rfl
 | m :: l, p, hp, hb, h => by
   have h0 := hb m List.mem_cons_self
   rw [ptl_cons, ptl_out l _ (ptl_lt1 hp (by omega) _) (fun n hn => hb n (List.mem_cons_of_mem _ hn)) (fun n hn => h n (List.mem_cons_of_mem _ hn)), ptl_one hp (by omega), if_neg (h m List.mem_cons_self)]
theorem ptl_in {q : Int} {b : Bool} : ∀ (l : List (Int × Bool)) (p : Nat), p < 18446744073709551616 → (∀ m ∈ l, 0 ≤ m.1 ∧ m.1 ≤ 63) → (l.map (·.1)).Nodup → (q, b) ∈ l → hasBit (ptL l p) q.toNat = b
 | [], _, _, _, _, h => by cases h
 | m :: l, p, hp, hb, hn, h => by
   have h0 := hb m List.mem_cons_self
   rw [List.map_cons, List.nodup_cons] at hn
   rcases List.mem_cons.1 h with e | h
   ·subst e
    rw [ptl_cons, ptl_out l _ (ptl_lt1 hp (by omega) _) (fun n hn => hb n (List.mem_cons_of_mem _ hn)) (fun n hm e => ?_), ptl_one hp (by omega), if_pos rfl]
    refine hn.1 (List.mem_map.2 ⟨n, hm, ?_⟩)
    have := hb n (List.mem_cons_of_mem _ hm)
    dsimp only at e h0 ⊢
    omega
   ·rw [ptl_cons]
    exact ptl_in l _ (ptl_lt1 hp (by omega) _) (fun n hn => hb n (List.mem_cons_of_mem _ hn)) hn.2 h
theorem nd_63 {T : Tb} (hT : TbOk T) {x : Rw} (hx : x ∈ T.rw) : ∀ m ∈ x.nd, 0 ≤ m.1 ∧ m.1 ≤ 63 := by
 intro m hm
 have := (hT.rw x hx).nd m hm
 have := hT.pn
 omega
theorem rg_set {T : Tb} {s : St} (hT : TbR T) (h : Rg T s) (oc : Nat) {n : Nat} {x : Rw} (hx : T.rw[n]? = some x) : Rg T (setS T s oc n x) := by
 have hok := setS_ok hT.ok h.ok oc hx
 have hxm := List.mem_of_getElem? hx
 cases hm : maySet T s oc n x with
 | false =>
   have e : setS T s oc n x = s := by unfold setS; rw [hm]; rfl
   rw [e]; exact h
 | true =>
   have e : setS T s oc n x = { s with lk := withBit s.lk n, pt := ptL x.nd s.pt } := by unfold setS; rw [hm]; rfl
   rw [e] at hok ⊢
   have hn : n < T.rw.length := (List.getElem?_eq_some_iff.1 hx).1
   have hp64 : s.pt < 18446744073709551616 := by have := h.ok.pt; omega
   have hb := nd_63 hT.ok hxm
   unfold maySet at hm
   simp only [Bool.and_eq_true, Bool.not_eq_true', List.any_eq_false] at hm
   obtain ⟨m1, m2, m3, m4⟩ := hm
   have m3 : ∀ k ∈ x.cf, hasBit s.lk k.toNat = false := fun k hk => by
    have := m3 k hk
    simpa using this
   refine ⟨hok, fun i hi => ?_, fun i hi => ?_, fun i hi => ?_, h.t0, h.tm, fun p hp => ?_, fun k y hy => ?_⟩
   ·dsimp only at hi
    rw [has_with, Bool.or_eq_true, decide_eq_true_eq] at hi
    rcases hi with hi | hi
    ·exact h.lk i hi
    ·omega
   ·dsimp only
    rw [has_with, h.us i hi]; rfl
   ·dsimp only
    rw [has_with, h.ca i hi]; rfl
   ·dsimp only at hp
    by_cases hq : ∃ m ∈ x.nd, m.1.toNat = p
    ·obtain ⟨m, hm, hmp⟩ := hq
     have := (hT.ok.rw x hxm).nd m hm
     omega
    ·rw [ptl_out x.nd _ hp64 hb (fun m hm e => hq ⟨m, hm, e⟩)] at hp
     exact h.pt p hp
   ·rw [ln_iff]
    intro hl
    dsimp only at hl ⊢
    by_cases e : k = n
    ·subst e
     rw [hx] at hy
     obtain rfl := Option.some.inj hy
     refine ⟨fun j hj => ?_, fun m hm => ptl_in _ _ hp64 hb (hT.nd x hxm) hm⟩
     rw [has_with, m3 j hj, Bool.false_or, decide_eq_false_iff_not]
     intro e
     have hj0 := (hT.ok.rw x hxm).cf j hj
     exact hT.self k x hx (by rw [show (k : Int) = j by omega]; exact hj)
    ·rw [has_with, Bool.or_eq_true, decide_eq_true_eq] at hl
     have hl : hasBit s.lk k = true := hl.resolve_right (fun e' => e e'.symm)
     obtain ⟨c1, c2⟩ := ln_iff.1 (h.li k y hy) hl
     have hym := List.mem_of_getElem? hy
     have hno : ¬ (k : Int) ∈ x.cf := fun hk => by
      have := m3 k hk
      rw [Int.toNat_natCast, hl] at this
      cases this
     refine ⟨fun j hj => ?_, fun m hm => ?_⟩
     ·rw [has_with, c1 j hj, Bool.false_or, decide_eq_false_iff_not]
      intro e'
      have hj0 := (hT.ok.rw y hym).cf j hj
      exact hno (hT.sym k n y x hy hx (by rw [show (n : Int) = j by omega]; exact hj))
     ·by_cases hq : ∃ q ∈ x.nd, q.1.toNat = m.1.toNat
      ·obtain ⟨⟨q, b⟩, hq, hqm⟩ := hq
       obtain ⟨mp, mb⟩ := m
       have b1 := hb _ hq
       have b2 := nd_63 hT.ok hym _ hm
       dsimp only at hqm b1 b2
       obtain rfl : q = mp := by omega
       rw [ptl_in _ _ hp64 hb (hT.nd x hxm) hq]
       exact hT.same n k x y q b mb hx hy (fun e' => e e'.symm) hno hq hm
      ·rw [ptl_out x.nd _ hp64 hb (fun q hq' e => hq ⟨q, hq', e⟩)]
       exact c2 m hm
theorem rg_can {T : Tb} {s : St} (hT : TbR T) (h : Rg T s) (oc : Nat) {n : Nat} {x : Rw} (hx : T.rw[n]? = some x) : Rg T (canS s oc n x) := by
 cases hm : mayCan s n with
 | false =>
   have e : canS s oc n x = s := by unfold canS; rw [hm]; rfl
   rw [e]; exact h
 | true =>
   have e : canS s oc n x = { s with ca := withBit s.ca n, tm := if hasBit oc x.ah.toNat then upd s.tm n 20 else s.tm } := by unfold canS; rw [hm]; rfl
   rw [e]
   have h63 := row_63 hT.ok hx
   unfold mayCan at hm
   simp only [Bool.and_eq_true, Bool.not_eq_true'] at hm
   refine ⟨⟨h.ok.lk, h.ok.us, withBit_lt _ _ h63 h.ok.ca, ?_, h.ok.pt⟩, h.lk, h.us, fun i hi => ?_, fun i hi hc => ?_, fun i hi => ?_, h.pt, h.li⟩
   ·dsimp only
    split
    ·exact upd_le h.ok.tm n (by omega)
    ·exact h.ok.tm
   ·dsimp only at hi
    rw [has_with, Bool.or_eq_true, decide_eq_true_eq] at hi
    rcases hi with hi | hi
    ·exact h.ca i hi
    ·subst hi; exact hm.1
   ·dsimp only at hc ⊢
    rw [has_with, Bool.or_eq_false_iff, decide_eq_false_iff_not] at hc
    split
    ·rw [upd_ne _ _ (fun e => hc.2 e.symm)]; exact h.t0 i hi hc.1
    ·exact h.t0 i hi hc.1
   ·dsimp only
    split
    ·by_cases e : i = n
     ·subst e; rw [upd_at]; exact Nat.le_refl _
     ·rw [upd_ne _ _ e]; exact h.tm i hi
    ·exact h.tm i hi
theorem ned_no {T : Tb} {s : St} {p : Nat} : ∀ k, nedS T s p k = false → ∀ n, n < k → ∀ x, T.rw[n]? = some x → hasBit s.lk n = true → ∀ m ∈ x.nd, m.1 ≠ (p : Int)
 | 0, _, n, hn, _, _, _, _, _ => by omega
 | k + 1, h, n, hn, x, hx, hl, m, hm => by
   have h : (nedS T s p k || (hasBit s.lk k && ((T.rw[k]?).map (fun x => x.nd.any (fun n => n.1 == (p : Int)))).getD false)) = false := h
   rw [Bool.or_eq_false_iff] at h
   by_cases e : n = k
   ·subst e
    have h2 := h.2
    rw [hl, hx] at h2
    simp only [Bool.true_and, Option.map_some, Option.getD_some, List.any_eq_false] at h2
    have := h2 m hm
    simpa using this
   ·exact ned_no k h.1 n (by omega) x hx hl m hm
theorem rg_mov {T : Tb} {s : St} (hT : TbR T) (h : Rg T s) (oc : Nat) {p : Nat} (hp : p < T.li.length) : Rg T (movS T s oc p) := by
 have hok := movS_ok hT.ok h.ok oc hp
 cases hm : mayMov T s oc p with
 | false =>
   have e : movS T s oc p = s := by unfold movS; rw [hm]; rfl
   rw [e]; exact h
 | true =>
   have e : movS T s oc p = { s with pt := flipB s.pt p } := by unfold movS; rw [hm]; rfl
   rw [e] at hok ⊢
   unfold mayMov at hm
   simp only [Bool.and_eq_true, Bool.not_eq_true'] at hm
   refine ⟨hok, h.lk, h.us, h.ca, h.t0, h.tm, fun q hq => ?_, fun n x hx => ?_⟩
   ·dsimp only at hq
    rw [has_flip] at hq
    by_cases e : p = q
    ·subst e; exact hp
    ·rw [decide_eq_false e] at hq
     exact h.pt q (by simpa using hq)
   ·rw [ln_iff]
    intro hl
    dsimp only at hl ⊢
    obtain ⟨c1, c2⟩ := ln_iff.1 (h.li n x hx) hl
    refine ⟨c1, fun m hm' => ?_⟩
    have h1 := ned_no _ hm.2 n (List.getElem?_eq_some_iff.1 hx).1 x hx hl m hm'
    have h2 := nd_63 hT.ok (List.mem_of_getElem? hx) m hm'
    rw [has_flip, decide_eq_false (by omega), c2 m hm']
    cases m.2 <;> rfl
theorem rg_rel {T : Tb} {s : St} (h : Rg T s) {n : Nat} (hn : n ≤ 63) : Rg T (relS s n) := by
 have w1 : ∀ i, hasBit (relS s n).lk i = (hasBit s.lk i && !decide (n = i)) := has_wo hn h.ok.lk
 have w2 : ∀ i, hasBit (relS s n).us i = (hasBit s.us i && !decide (n = i)) := has_wo hn h.ok.us
 have w3 : ∀ i, hasBit (relS s n).ca i = (hasBit s.ca i && !decide (n = i)) := has_wo hn h.ok.ca
 have w4 : (relS s n).tm = upd s.tm n 0 := rfl
 have w5 : (relS s n).pt = s.pt := rfl
 refine ⟨rel_ok h.ok n, fun i hi => ?_, fun i hi => ?_, fun i hi => ?_, fun i hi hc => ?_, fun i hi => ?_, fun i hi => h.pt i hi, fun k y hy => ?_⟩
 ·rw [w1, Bool.and_eq_true] at hi; exact h.lk i hi.1
 ·rw [w2, Bool.and_eq_true] at hi; rw [w1, h.us i hi.1, hi.2]; rfl
 ·rw [w3, Bool.and_eq_true] at hi; rw [w1, h.ca i hi.1, hi.2]; rfl
 ·rw [w4]
  by_cases e : i = n
  ·subst e; exact upd_at _ _ _
  ·rw [upd_ne _ _ e]
   rw [w3, decide_eq_false (fun e' => e e'.symm)] at hc
   exact h.t0 i hi (by simpa using hc)
 ·rw [w4]
  by_cases e : i = n
  ·subst e; rw [upd_at]; omega
  ·rw [upd_ne _ _ e]; exact h.tm i hi
 ·rw [ln_iff]
  intro hl
  rw [w1, Bool.and_eq_true] at hl
  obtain ⟨c1, c2⟩ := ln_iff.1 (h.li k y hy) hl.1
  refine ⟨fun j hj => ?_, fun m hm => ?_⟩
  ·rw [w1, c1 j hj]; rfl
  ·rw [w5]; exact c2 m hm
theorem rg_rou {T : Tb} {s : St} (h : Rg T s) (oc u : Nat) {n : Nat} (hn : n ≤ 63) (hl : hasBit s.lk n = true) (x : Rw) : Rg T (rouS s oc u n x) := by
 unfold rouS
 split
 ·split
  ·exact rg_rel h hn
  ·exact h
 ·split
  ·refine ⟨⟨h.ok.lk, withBit_lt _ _ hn h.ok.us, h.ok.ca, h.ok.tm, h.ok.pt⟩, h.lk, fun i hi => ?_, h.ca, h.t0, h.tm, h.pt, h.li⟩
   dsimp only at hi
   rw [has_with, Bool.or_eq_true, decide_eq_true_eq] at hi
   rcases hi with hi | hi
   ·exact h.us i hi
   ·subst hi; exact hl
  ·split
   ·rename_i hca
    split
    ·refine ⟨⟨h.ok.lk, h.ok.us, h.ok.ca, upd_le h.ok.tm n (by have := h.ok.tm n; omega), h.ok.pt⟩, h.lk, h.us, h.ca, fun i hi hc => ?_, fun i hi => ?_, h.pt, h.li⟩
     ·dsimp only at hc ⊢
      by_cases e : i = n
      ·subst e; rw [hca] at hc; cases hc
      ·rw [upd_ne _ _ e]; exact h.t0 i hi hc
     ·dsimp only
      by_cases e : i = n
      ·subst e; rw [upd_at]; have := h.tm i hi; omega
      ·rw [upd_ne _ _ e]; exact h.tm i hi
    ·split
     ·exact rg_rel h hn
     ·exact h
   ·exact h
theorem rg_com {T : Tb} {s : St} (hT : TbR T) (h : Rg T s) (oc : Nat) (c : Nat × Int) : Rg T (comS T s oc c) := by
 unfold comS comG
 split
 ·exact h
 ·split
  ·split
   ·exact rg_mov hT h oc (by assumption)
   ·exact h
  ·cases hx : T.rw[c.2.toNat]? with
   | none => exact h
   | some x =>
     dsimp only
     split
     ·exact rg_set hT h oc hx
     ·split
      ·exact rg_can hT h oc hx
      ·exact h
theorem rg_coms {T : Tb} (hT : TbR T) (oc : Nat) : ∀ (l : List (Nat × Int)) (s : St), Rg T s → Rg T (comsG canS T oc l s)
 | [], _, h => h
 | c :: l, s, h => rg_coms hT oc l (comS T s oc c) (rg_com hT h oc c)
theorem rous_succ (T : Tb) (oc u : Nat) (s : St) (k : Nat) : rousS T oc u s (k + 1) = if hasBit (rousS T oc u s k).lk k then ((T.rw[k]?).map (rouS (rousS T oc u s k) oc u k)).getD (rousS T oc u s k) else rousS T oc u s k := rfl
theorem rg_rous {T : Tb} (hT : TbR T) (oc u : Nat) {s : St} (h : Rg T s) : ∀ k, Rg T (rousS T oc u s k)
 | 0 => h
 | k + 1 => by
   have ih := rg_rous hT oc u h k
   rw [rous_succ]
   split
   ·rename_i hl
    cases hx : T.rw[k]? with
    | none => exact ih
    | some x => exact rg_rou ih oc u (row_63 hT.ok hx) hl x
   ·exact ih
theorem rg_next {T : Tb} (hT : TbR T) {s : St} (h : Rg T s) (oc : Nat) (l : List (Nat × Int)) : Rg T (nextS T s oc l) :=
 rg_rous hT oc _ (rg_coms hT oc _ _ (rg_tidy h)) _
/-- what is shown proceed, bit by bit -/
theorem pros_bit {T : Tb} {s : St} {oc a b : Nat} (i : Nat) : ∀ k, hasBit (prosS T s oc a b k) i = (decide (i < k) && ((T.rw[i]?).map (proS s oc a b i)).getD false)
 | 0 => by
   have : hasBit 0 i = false := by rw [hasBit_test]; exact Nat.zero_testBit i
   show hasBit 0 i = _
   rw [this, decide_eq_false (by omega)]; rfl
 | k + 1 => by
   have ih := pros_bit (T := T) (s := s) (oc := oc) (a := a) (b := b) i k
   show hasBit (if ((T.rw[k]?).map (proS s oc a b k)).getD false then withBit (prosS T s oc a b k) k else prosS T s oc a b k) i = _
   by_cases e : i = k
   ·subst e
    rw [decide_eq_true (show i < i + 1 by omega), Bool.true_and]
    cases hp : ((T.rw[i]?).map (proS s oc a b i)).getD false with
    | true => rw [if_pos rfl, has_with, decide_eq_true rfl]; simp
    | false => rw [if_neg (by decide), ih, decide_eq_false (by omega)]; rfl
   ·rw [show decide (i < k + 1) = decide (i < k) by rw [decide_eq_decide]; omega, ← ih]
    split
    ·rw [has_with, decide_eq_false (fun e' => e e'.symm)]; simp
    ·rfl
theorem pro_parts {T : Tb} {t : St} {oc no re i : Nat} (h : hasBit (outS T t oc no re) i = true) : i < T.rw.length ∧ ∃ x, T.rw[i]? = some x ∧ hasBit t.lk i = true ∧ (∀ k ∈ x.tr, hasBit oc k.toNat = false) ∧ ∀ m ∈ x.nd, hasBit (if m.2 then sideN re no else sideN no re) m.1.toNat = true := by
 unfold outS at h
 rw [pros_bit, Bool.and_eq_true, decide_eq_true_eq] at h
 obtain ⟨h1, h2⟩ := h
 cases hx : T.rw[i]? with
 | none => rw [hx] at h2; cases h2
 | some x =>
   rw [hx] at h2
   have h2 : proS t oc (sideN no re) (sideN re no) i x = true := h2
   unfold proS mayCan freeS at h2
   simp only [Bool.and_eq_true, Bool.not_eq_true', List.any_eq_false, List.all_eq_true] at h2
   exact ⟨h1, x, rfl, h2.1.1, fun k hk => by have := h2.2.1 k hk; simpa using this, h2.2.2⟩
/-- a route that is let go -/
theorem rou_other {s : St} (ho : s.ok) (oc u : Nat) {n : Nat} (hn : n ≤ 63) (x : Rw) {i : Nat} (h : i ≠ n) : hasBit (rouS s oc u n x).lk i = hasBit s.lk i ∧ hasBit (rouS s oc u n x).ca i = hasBit s.ca i ∧ (rouS s oc u n x).tm i = s.tm i := by
 have hr : hasBit (relS s n).lk i = hasBit s.lk i ∧ hasBit (relS s n).ca i = hasBit s.ca i ∧ (relS s n).tm i = s.tm i := by
  have w1 : hasBit (relS s n).lk i = (hasBit s.lk i && !decide (n = i)) := has_wo hn ho.lk i
  have w3 : hasBit (relS s n).ca i = (hasBit s.ca i && !decide (n = i)) := has_wo hn ho.ca i
  rw [w1, w3, decide_eq_false (fun e => h e.symm)]
  exact ⟨by simp, by simp, upd_ne _ _ h⟩
 unfold rouS
 split
 ·split
  ·exact hr
  ·exact ⟨rfl, rfl, rfl⟩
 ·split
  ·exact ⟨rfl, rfl, rfl⟩
  ·split
   ·split
    ·exact ⟨rfl, rfl, upd_ne _ _ h⟩
    ·split
     ·exact hr
     ·exact ⟨rfl, rfl, rfl⟩
   ·exact ⟨rfl, rfl, rfl⟩
theorem rou_gone {s : St} {oc u n : Nat} {x : Rw} (hl : hasBit s.lk n = true) (h : hasBit (rouS s oc u n x).lk n = false) : freeS oc x = true ∧ (hasBit u n = true ∨ (hasBit s.ca n = true ∧ s.tm n = 0)) := by
 unfold rouS at h
 split at h
 ·split at h
  ·rename_i a b; exact ⟨b, .inl a⟩
  ·rw [hl] at h; cases h
 ·split at h
  ·have h : hasBit s.lk n = false := h
   rw [hl] at h; cases h
  ·split at h
   ·split at h
    ·have h : hasBit s.lk n = false := h
     rw [hl] at h; cases h
    ·split at h
     ·rename_i a b c; exact ⟨c, .inr ⟨a, by omega⟩⟩
     ·rw [hl] at h; cases h
   ·rw [hl] at h; cases h
theorem rous_far {T : Tb} (hT : TbR T) (oc u : Nat) {s : St} (h : s.ok) (i : Nat) : ∀ k, k ≤ i → hasBit (rousS T oc u s k).lk i = hasBit s.lk i ∧ hasBit (rousS T oc u s k).ca i = hasBit s.ca i ∧ (rousS T oc u s k).tm i = s.tm i
 | 0, _ => ⟨rfl, rfl, rfl⟩
 | k + 1, hk => by
   have ih := rous_far hT oc u h i k (by omega)
   have ho := rous_ok hT.ok oc u h k
   rw [rous_succ]
   split
   ·cases hx : T.rw[k]? with
    | none => exact ih
    | some x =>
      have := rou_other ho oc u (row_63 hT.ok hx) x (show i ≠ k by omega)
      exact ⟨this.1.trans ih.1, this.2.1.trans ih.2.1, this.2.2.trans ih.2.2⟩
   ·exact ih
theorem rous_late {T : Tb} (hT : TbR T) (oc u : Nat) {s : St} (h : s.ok) (i : Nat) : ∀ d, hasBit (rousS T oc u s (i + 1 + d)).lk i = hasBit (rousS T oc u s (i + 1)).lk i
 | 0 => rfl
 | d + 1 => by
   have ih := rous_late hT oc u h i d
   have ho := rous_ok hT.ok oc u h (i + 1 + d)
   rw [show i + 1 + (d + 1) = (i + 1 + d) + 1 by omega, rous_succ]
   split
   ·cases hx : T.rw[i + 1 + d]? with
    | none => exact ih
    | some x => exact (rou_other ho oc u (row_63 hT.ok hx) x (show i ≠ i + 1 + d by omega)).1.trans ih
   ·exact ih
/-- what commands keep of a locked route -/
structure Kp1 (s S : St) (k : Nat) (A : Prop) : Prop where
 lk : hasBit S.lk k = true
 tm : hasBit s.ca k = true → hasBit S.ca k = true ∧ S.tm k = s.tm k
 ca : hasBit S.ca k = true → hasBit s.ca k = true ∨ A
theorem kp_com {T : Tb} {s S : St} {k : Nat} {A : Prop} (h : Kp1 s S k A) (oc : Nat) (c : Nat × Int) (hc : c = (2, (k : Int)) → A) : Kp1 s (comS T S oc c) k A := by
 unfold comS comG
 split
 ·exact h
 ·split
  ·split
   ·unfold movS
    split
    ·exact ⟨h.lk, h.tm, h.ca⟩
    ·exact h
   ·exact h
  ·cases hx : T.rw[c.2.toNat]? with
   | none => exact h
   | some x =>
     dsimp only
     split
     ·unfold setS
      split
      ·exact ⟨by dsimp only; rw [has_with, h.lk]; rfl, h.tm, h.ca⟩
      ·exact h
     ·split
      ·rename_i h0 h3 h1 h2
       unfold canS
       split
       ·rename_i hm
        unfold mayCan at hm
        simp only [Bool.and_eq_true, Bool.not_eq_true'] at hm
        refine ⟨h.lk, fun hs => ?_, fun hS => ?_⟩
        ·obtain ⟨a, b⟩ := h.tm hs
         have hne : k ≠ c.2.toNat := fun e => by rw [e, hm.2.2] at a; cases a
         refine ⟨by dsimp only; rw [has_with, a]; rfl, ?_⟩
         dsimp only
         split
         ·rw [upd_ne _ _ hne]; exact b
         ·exact b
        ·dsimp only at hS
         rw [has_with, Bool.or_eq_true, decide_eq_true_eq] at hS
         rcases hS with hS | hS
         ·exact h.ca hS
         ·right
          apply hc
          obtain ⟨c1, c2⟩ := c
          dsimp only at h0 h2 hS
          rw [h2, show c2 = (k : Int) by omega]
       ·exact h
      ·exact h
theorem kp_coms {T : Tb} {s : St} {k : Nat} {A : Prop} (oc : Nat) : ∀ (l : List (Nat × Int)) (S : St), Kp1 s S k A → (∀ c ∈ l, c = (2, (k : Int)) → A) → Kp1 s (comsG canS T oc l S) k A
 | [], _, h, _ => h
 | c :: l, S, h, hc => kp_coms oc l (comS T S oc c) (kp_com h oc c (hc c List.mem_cons_self)) (fun d hd => hc d (List.mem_cons_of_mem _ hd))
theorem gone_parts {T : Tb} (hT : TbR T) {s : St} (h : Rg T s) (oc : Nat) (l : List (Nat × Int)) {k : Nat} {x : Rw} (hx : T.rw[k]? = some x) (h1 : hasBit s.lk k = true) (h2 : hasBit (nextS T s oc l).lk k = false) :
 freeS oc x = true ∧ (hasBit s.us k = true ∨ s.tm k = 0) ∧ (hasBit s.us k = true ∨ hasBit s.ca k = true ∨ (2, (k : Int)) ∈ l) := by
 have h63 := row_63 hT.ok hx
 have hkl : k < T.rw.length := (List.getElem?_eq_some_iff.1 hx).1
 obtain ⟨S, hS⟩ : ∃ S, comsG canS T oc (l.take 8) (tidyS T.rw.length T.li.length s) = S := ⟨_, rfl⟩
 have hS0 : S.ok := hS ▸ (rg_coms hT oc (l.take 8) _ (rg_tidy h)).ok
 have e1 : (tidyS T.rw.length T.li.length s).lk = s.lk := h.e1
 have e2 : (tidyS T.rw.length T.li.length s).us = s.us := h.e2
 have e3 : (tidyS T.rw.length T.li.length s).ca = s.ca := h.e3
 have e4 := h.e4 (n := k) (by omega)
 have hK : Kp1 s S k ((2, (k : Int)) ∈ l) := by
  rw [← hS]
  refine kp_coms oc _ _ ⟨by rw [e1]; exact h1, fun hc => ⟨by rw [e3]; exact hc, e4⟩, fun hc => .inl (by rw [e3] at hc; exact hc)⟩ (fun c hc e => ?_)
  rw [← e]
  exact List.mem_of_mem_take hc
 have h2 : hasBit (rousS T oc s.us S T.rw.length).lk k = false := by
  have : nextS T s oc l = rousS T oc s.us S T.rw.length := by
   show rousS T oc (tidyS T.rw.length T.li.length s).us (comsG canS T oc (l.take 8) (tidyS T.rw.length T.li.length s)) T.rw.length = _
   rw [e2, hS]
  rw [← this]; exact h2
 have h3 := rous_late hT oc s.us hS0 k (T.rw.length - (k + 1))
 rw [show k + 1 + (T.rw.length - (k + 1)) = T.rw.length by omega, h2] at h3
 obtain ⟨f1, f2, f3⟩ := rous_far hT oc s.us hS0 k k (Nat.le_refl _)
 rw [rous_succ, f1, hK.lk, hx] at h3
 have h3 : hasBit (rouS (rousS T oc s.us S k) oc s.us k x).lk k = false := h3.symm
 obtain ⟨g1, g2⟩ := rou_gone (by rw [f1]; exact hK.lk) h3
 refine ⟨g1, ?_⟩
 rcases g2 with g2 | ⟨g2, g3⟩
 ·exact ⟨.inl g2, .inl g2⟩
 ·rw [f2] at g2
  rw [f3] at g3
  refine ⟨.inr ?_, ?_⟩
  ·cases hc : hasBit s.ca k with
   | true => rw [← (hK.tm hc).2]; exact g3
   | false => exact h.t0 k (by omega) hc
  ·rcases hK.ca g2 with h | h
   ·exact .inr (.inl h)
   ·exact .inr (.inr h)
/-- a layout's table is so -/
theorem apart_parts {L : Lay} {a b : Rt} (h : conflictS L a b = false) : a.sg ≠ b.sg ∧ (∀ s ∈ a.tr, hasI b.tr s = false) ∧ ∀ q ∈ ptsR a b 0 L.po.l, q = false := by
 unfold conflictS reasonsS at h
 rw [List.any_cons, List.any_append, Bool.or_eq_false_iff, Bool.or_eq_false_iff] at h
 obtain ⟨h1, h2, h3⟩ := h
 refine ⟨fun e => ?_, fun s hs => ?_, fun q hq => ?_⟩
 ·simp [e] at h1
 ·rw [List.any_eq_false] at h2
  have := h2 _ (List.mem_map.2 ⟨s, hs, rfl⟩)
  simpa using this
 ·rw [List.any_eq_false] at h3
  simpa using h3 q hq
theorem formed_dup {L : Lay} {r : Rt} (h : formedS L r = true) : (r.nd.map (·.1)).Nodup := by
 have : dupN [] (r.po.l ++ r.fl.l) = false := by
  cases hd : dupN [] (r.po.l ++ r.fl.l) with
  | false => rfl
  | true => rw [fs_3 hd] at h; cases h
 rw [dupN_map, dupI_iff] at this
 exact this.1
theorem apart_nd {L : Lay} {a b : Rt} (h : conflictS L a b = false) (ha : formedS L a = true) (hb : formedS L b = true) {p : Int} {x y : Bool} (hr : 0 ≤ p ∧ p < (L.po.l.length : Int)) (hi : (p, x) ∈ a.nd) (hk : (p, y) ∈ b.nd) : x = y := by
 have m1 := ndAt_mem (formed_dup ha) hi
 have m2 := ndAt_mem (formed_dup hb) hk
 obtain ⟨j, rfl⟩ : ∃ j : Nat, p = j := ⟨p.toNat, by omega⟩
 obtain ⟨q, hq⟩ : ∃ q, L.po.l[j]? = some q := ⟨_, List.getElem?_eq_getElem (by omega)⟩
 have h1 := ptsR_get (a := a) (b := b) (k := 0) hq
 rw [Nat.zero_add, m1, m2] at h1
 have h2 := (apart_parts h).2.2 _ (List.mem_of_getElem? h1)
 unfold ptBad at h2
 cases x <;> cases y <;> simp at h2 <;> rfl
theorem tbl_at' {L : Lay} {n : Nat} {x : Rw} (h : (tbL L).rw[n]? = some x) : ∃ r, L.rt.l[n]? = some r ∧ x = rwL L n r := by
 have hn := (List.getElem?_eq_some_iff.1 h).1
 rw [tbl_len] at hn
 refine ⟨_, List.getElem?_eq_getElem hn, ?_⟩
 rw [tbl_at (List.getElem?_eq_getElem hn)] at h
 exact (Option.some.inj h).symm
theorem cf_pair {L : Lay} (h : (checkS L).1 = 0) {n k : Nat} {r : Rt} : (k : Int) ∈ (rwL L n r).cf ↔ k < L.rt.l.length ∧ pairS L (n : Int) (k : Int) = true := by
 have := (mayS_small (cs_zero h)).2.2.2
 show (k : Int) ∈ cofL L (n : Int) ↔ _
 rw [cof_mem]
 constructor
 ·rintro ⟨m, h1, h2, h3⟩
  obtain rfl : k = m := by omega
  exact ⟨by omega, h3⟩
 ·rintro ⟨h1, h2⟩
  exact ⟨k, rfl, by omega, h2⟩
theorem tbl_right {L : Lay} (h : (checkS L).1 = 0) : TbR (tbL L) := by
 have hm := cs_zero h
 refine ⟨tbl_ok h, fun n x hx hc => ?_, fun n k x y hx hy hc => ?_, fun x hx => ?_, fun n k x y p a b hx hy hne hc ha hb => ?_⟩
 ·obtain ⟨r, hr, rfl⟩ := tbl_at' hx
  have h2 := ((cf_pair h).1 hc).2
  rw [ps_no (by omega)] at h2
  cases h2
 ·obtain ⟨r, hr, rfl⟩ := tbl_at' hx
  obtain ⟨q, hq, rfl⟩ := tbl_at' hy
  have h2 := ((cf_pair h).1 hc).2
  rw [ps_comm] at h2
  exact (cf_pair h).2 ⟨(List.getElem?_eq_some_iff.1 hr).1, h2⟩
 ·obtain ⟨i, r, hr, rfl⟩ := tbl_rw hx
  exact formed_dup (t_formed h r (List.mem_of_getElem? hr))
 ·obtain ⟨r, hr, rfl⟩ := tbl_at' hx
  obtain ⟨q, hq, rfl⟩ := tbl_at' hy
  have hp : pairS L (n : Int) (k : Int) = false := by
   cases hp : pairS L (n : Int) (k : Int) with
   | false => rfl
   | true => exact absurd ((cf_pair h).2 ⟨(List.getElem?_eq_some_iff.1 hq).1, hp⟩) hc
  rw [ps_at hm hr hq hne] at hp
  have hrm := List.mem_of_getElem? hr
  exact apart_nd hp (t_formed h r hrm) (t_formed h q (List.mem_of_getElem? hq)) (t_nd hm r hrm _ ha) ha hb
end Go.Proofs.Ythnpekbmaapgnaa
