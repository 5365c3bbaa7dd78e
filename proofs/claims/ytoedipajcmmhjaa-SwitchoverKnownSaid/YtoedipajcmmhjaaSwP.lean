/-
  SwitchoverFences: the plain law; no program in sight.
-/
import Derived.Test.YtoedipajcmmhjaaSw
import Derived.Test.YtoedipajcmmhjaaLeaseBook
namespace Go.Proofs.Ytoedipajcmmhjaa
open Go.RowKit

/-- the book and the clock ahead of step k -/
structure BkI (k : Nat) (E H U now : Int) : Prop where
  r : rightB E H U = true
  e : E ≤ k
  n1 : 10 ≤ now
  n2 : now ≤ 10 + k
  u : U ≤ now + 8
/-- pair q's switch, and the epoch in which it was Active last -/
structure SdI (q E H U now : Int) (s : Sw) (lf : Int) : Prop where
  a1 : 0 ≤ s.ge
  a2 : s.ge ≤ E
  a3 : 0 ≤ s.gu
  a4 : s.gu ≤ now + 8
  k1 : 0 ≤ s.kn
  k2 : s.kn ≤ E
  q1 : 0 ≤ s.qu
  q2 : s.qu ≤ 4
  l1 : 0 ≤ lf
  l2 : lf ≤ E
  ha : 0 < s.ge → s.ge = E → H = q ∧ s.gu = U
  la : 0 < s.ge → s.ge < E → s.gu < now
theorem BkI.right {k : Nat} {E H U now : Int} (h : BkI k E H U now) : 0 ≤ E ∧ -1 ≤ H ∧ H ≤ 1 ∧ 0 ≤ U ∧ (0 < E ∨ H = -1) := by
  obtain ⟨r1, r2, r3, r4, r5, r6, r7⟩ := rightB_true h.r
  exact ⟨r1, r3, r4, r5, r7⟩
theorem rb_of {E H U : Int} (h1 : 0 ≤ E) (h2 : E ≤ 1000) (h3 : -1 ≤ H) (h4 : H ≤ 1) (h5 : 0 ≤ U) (h6 : U ≤ 5000) (h7 : 0 < E ∨ H = -1) : rightB E H U = true := by
  unfold rightB; exact decide_eq_true ⟨h1, by omega, h3, h4, h5, by omega, h7⟩
theorem BkI.new : BkI 0 0 (-1) 0 10 := by constructor <;> decide
theorem SdI.new (q p : Int) : SdI q 0 (-1) 0 10 ⟨p, 0, 0, false, 0, 0⟩ 0 := by
  have z : (0 : Int) ≤ 0 := Int.le_refl 0
  exact ⟨z, z, z, show (0 : Int) ≤ 10 + 8 by decide, z, z, z, show (0 : Int) ≤ 4 by decide, z, z, fun h => absurd h (Int.lt_irrefl 0), fun h => absurd h (Int.lt_irrefl 0)⟩
theorem BkI.next {k : Nat} {E H U now : Int} (h : BkI k E H U now) : BkI (k + 1) E H U now := ⟨h.r, by have := h.e; omega, h.n1, by have := h.n2; omega, h.u⟩
theorem BkI.time {k : Nat} {E H U now : Int} (h : BkI k E H U now) : BkI (k + 1) E H U (now + 1) := ⟨h.r, by have := h.e; omega, by have := h.n1; omega, by have := h.n2; omega, by have := h.u; omega⟩
theorem SdI.time {q E H U now : Int} {s : Sw} {lf : Int} (h : SdI q E H U now s lf) : SdI q E H U (now + 1) s lf :=
  ⟨h.a1, h.a2, h.a3, by have := h.a4; omega, h.k1, h.k2, h.q1, h.q2, h.l1, h.l2, h.ha, fun x y => by have := h.la x y; omega⟩
theorem SdI.ok {k : Nat} {q E H U now : Int} {s : Sw} {lf : Int} (h : SdI q E H U now s lf) (b : BkI k E H U now) (hk : k ≤ 400) : s.ok := by
  have := b.e; have := b.n2
  exact ⟨h.a1, by have := h.a2; omega, h.a3, by have := h.a4; omega, h.q1, h.q2, h.k1, by have := h.k2; omega⟩
/-- what a switch holds but its role, and its count of quiet ticks -/
theorem SdI.like {q E H U now : Int} {s s' : Sw} {lf : Int} (h : SdI q E H U now s lf) (h1 : s'.ge = s.ge) (h2 : s'.gu = s.gu) (h3 : 0 ≤ s'.kn) (h4 : s'.kn ≤ E) (h5 : 0 ≤ s'.qu) (h6 : s'.qu ≤ 4) : SdI q E H U now s' lf := by
  obtain ⟨a1, a2, a3, a4, k1, k2, q1, q2, l1, l2, ha, la⟩ := h
  exact ⟨by rw [h1]; exact a1, by rw [h1]; exact a2, by rw [h2]; exact a3, by rw [h2]; exact a4, h3, h4, h5, h6, l1, l2, by rw [h1, h2]; exact ha, by rw [h1, h2]; exact la⟩
theorem SdI.back {q E H U now : Int} {s : Sw} {lf : Int} (h : SdI q E H U now s lf) : SdI q E H U now s.back lf := h.like rfl rfl h.k1 h.k2 (Int.le_refl 0) (show (0 : Int) ≤ 4 by decide)
theorem SdI.ref {q E H U now : Int} {s : Sw} {lf : Int} (h : SdI q E H U now s lf) : SdI q E H U now (refR s).1 lf := by
  unfold refR; split
  · exact h.back
  · exact h
theorem ref_ac (s : Sw) : (refR s).1.ac = false := by
  unfold refR; split
  · rfl
  · rename_i h; exact Bool.eq_false_iff.2 h
theorem SdI.tick {q E H U now : Int} {s : Sw} {lf : Int} (h : SdI q E H U now s lf) (t : Int) : SdI q E H U now (tickR s t).1 lf := by
  unfold tickR leadR standR
  repeat' split
  · exact h.back
  · exact h
  · exact h
  · exact h.like rfl rfl h.k1 h.k2 (by have := h.q1; show (0 : Int) ≤ s.qu + 1; omega) (by show s.qu + 1 ≤ 4; omega)
  · exact h.like rfl rfl h.k1 h.k2 (Int.le_refl 0) (show (0 : Int) ≤ 4 by decide)
/-- a tick makes none Active; one that wants Renew is Active, and stays as it was -/
theorem tick_ac (s : Sw) (t : Int) (h : (tickR s t).1.ac = true) : s.ac = true := by
  unfold tickR at h
  split at h
  · rename_i c; exact c
  · unfold standR at h; split at h <;> exact h
theorem tick_renew (s : Sw) (t : Int) (h : (tickR s t).2 = 2) : s.ac = true ∧ (tickR s t).1 = s := by
  unfold tickR at h ⊢
  split at h
  · rename_i c
    rw [if_pos c]
    unfold leadR at h ⊢
    split at h
    · simp at h
    · rename_i c2
      rw [if_neg c2]
      split at h
      · rename_i c3; rw [if_pos c3]; exact ⟨c, rfl⟩
      · simp at h
  · unfold standR at h; split at h <;> simp at h
theorem SdI.beat {q E H U now : Int} {s : Sw} {lf : Int} (h : SdI q E H U now s lf) (e : Int) (he : e ≤ E) : SdI q E H U now (beatR s e).1 lf := by
  unfold beatR
  split
  · exact h
  · rename_i c
    have c1 : 0 ≤ e := by omega
    split
    · exact h.like rfl rfl c1 he (Int.le_refl 0) (show (0 : Int) ≤ 4 by decide)
    · split
      · exact h.like rfl rfl c1 he (Int.le_refl 0) (show (0 : Int) ≤ 4 by decide)
      · exact h.like rfl rfl c1 he h.q1 h.q2
theorem SdI.mark {q E H U now : Int} {s : Sw} {lf : Int} (h : SdI q E H U now s lf) : SdI q E H U now s (if s.ac then s.ge else lf) := by
  obtain ⟨a1, a2, a3, a4, k1, k2, q1, q2, l1, l2, ha, la⟩ := h
  split
  · exact ⟨a1, a2, a3, a4, k1, k2, q1, q2, a1, a2, ha, la⟩
  · exact ⟨a1, a2, a3, a4, k1, k2, q1, q2, l1, l2, ha, la⟩
theorem hold_t {ge gu t : Int} (hh : holdsB ge gu t = true) : 0 < ge ∧ t ≤ gu - 2 := by
  unfold holdsB at hh
  rw [Bool.and_eq_true] at hh
  exact ⟨of_decide_eq_true hh.1, of_decide_eq_true hh.2⟩
/-- never do both hold -/
theorem two_never {k : Nat} {p q E H U now : Int} {s o : Sw} {ls lo : Int} (b : BkI k E H U now) (hk : k ≤ 1000) (hp : SdI p E H U now s ls) (hq : SdI q E H U now o lo) (hpq : p ≠ q) {d c : Int} (d1 : 0 ≤ d) (d2 : d ≤ 2) (c1 : 0 ≤ c) (c2 : c ≤ 2) (h1 : holdR s (now - d) = true) : holdR o (now - c) = false := by
  have tms : ∀ x : Int, 0 ≤ x → x ≤ 2 → tm (now - x) = now - x := fun x hx hx2 => by
    have := b.n1; have := b.n2
    unfold tm; rw [if_neg (by omega)]; omega
  unfold holdR at h1 ⊢
  rw [tms d d1 d2] at h1
  rw [tms c c1 c2]
  rw [Bool.and_eq_true] at h1
  obtain ⟨x1, x2⟩ := hold_t h1.2
  cases hh : o.ac && holdsB o.ge o.gu (now - c) with
  | false => rfl
  | true =>
    exfalso
    rw [Bool.and_eq_true] at hh
    obtain ⟨y1, y2⟩ := hold_t hh.2
    rcases Int.lt_or_eq_of_le hp.a2 with e1 | e1
    · have := hp.la x1 e1; omega
    · have p1 := hp.ha x1 e1
      rcases Int.lt_or_eq_of_le hq.a2 with e2 | e2
      · have := hq.la y1 e2; omega
      · have p2 := hq.ha y1 e2; omega
theorem sw_ask_yes {E H U p t : Int} (h : (askR E H U p t).er = 0) : ¬ (H = 1 - p ∧ t ≤ U) ∧ askR E H U p t = ⟨E + 1, p, t + 8, E + 1, t + 8, 0⟩ := by
  unfold askR at h ⊢
  split at h
  · rename_i c
    rw [if_pos c]
    split at h
    · simp at h
    · rename_i c2
      rw [if_neg c2]
      split at h
      · simp at h
      · rename_i c3
        rw [if_neg c3]
        exact ⟨c2, rfl⟩
  · simp at h
theorem sw_ask_no {E H U p t : Int} (h : (askR E H U p t).er ≠ 0) : (askR E H U p t).e = E ∧ (askR E H U p t).h = H ∧ (askR E H U p t).u = U := by
  unfold askR at h ⊢
  repeat' split
  all_goals first | exact ⟨rfl, rfl, rfl⟩ | (exfalso; simp_all)
theorem sw_renew_no {E H U p n t : Int} (h : (renewR E H U p n t).er ≠ 0) : (renewR E H U p n t).e = E ∧ (renewR E H U p n t).h = H ∧ (renewR E H U p n t).u = U := by
  unfold renewR at h ⊢
  repeat' split
  all_goals first | exact ⟨rfl, rfl, rfl⟩ | (exfalso; simp_all)
theorem sw_of_yes {E H p n : Int} (h : ofR E H p n = 0) : n = E ∧ p = H := by
  unfold ofR at h
  split at h
  · omega
  · split at h
    · omega
    · rename_i c d; constructor
      · omega
      · exact Classical.not_not.1 (fun x => d (.inr x))
theorem sw_renew_yes {E H U p n t : Int} (h : (renewR E H U p n t).er = 0) : n = E ∧ p = H ∧ renewR E H U p n t = ⟨E, H, max U (t + 8), E, max U (t + 8), 0⟩ := by
  unfold renewR at h ⊢
  split at h
  · rename_i c
    rw [if_pos c]
    split at h
    · rename_i c2; exact absurd h c2
    · rename_i c2
      rw [if_neg c2]
      have c4 := sw_of_yes (Classical.not_not.1 c2)
      split at h
      · simp at h
      · rename_i c3
        rw [if_neg c3]
        exact ⟨c4.1, c4.2, rfl⟩
  · simp at h
theorem sw_take {ge gu a b : Int} (h1 : 0 ≤ a) (h2 : a ≤ 5000) (h3 : 0 ≤ b) (h4 : b ≤ 5000) (h5 : ge < a ∨ ge = a ∧ gu ≤ b) : takeR ge gu a b = ⟨a, b, 0⟩ := by
  unfold takeR
  rw [if_pos (by rw [inL_two]; simp [inB]; omega), if_neg (by omega)]
  rcases h5 with h5 | ⟨h5, h6⟩
  · rw [if_neg (by omega)]
  · rw [if_pos h5.symm, Int.max_eq_left h6]
/-- Ask is granted: the switch takes it -/
theorem SdI.asked {k : Nat} {p q E H U now : Int} {s o : Sw} {ls lo : Int} (b : BkI k E H U now) (hk : k < 400) (hp : SdI p E H U now s ls) (hq : SdI q E H U now o lo) (hp01 : p = 0 ∨ p = 1) (hpq : q = 1 - p) (hr : (askR E H U p now).er = 0) :
    askR E H U p now = ⟨E + 1, p, now + 8, E + 1, now + 8, 0⟩ ∧ (grantR s (E + 1) (now + 8)).1 = ⟨s.p, E + 1, now + 8, true, E + 1, 0⟩ ∧ BkI (k + 1) (E + 1) p (now + 8) now ∧
    SdI p (E + 1) p (now + 8) now ⟨s.p, E + 1, now + 8, true, E + 1, 0⟩ ls ∧ SdI q (E + 1) p (now + 8) now o lo ∧ ls < E + 1 := by
  obtain ⟨c, hA⟩ := sw_ask_yes hr
  obtain ⟨r1, r3, r4, r5, r7⟩ := b.right
  obtain ⟨r, e, n1, n2, u⟩ := b
  obtain ⟨a1, a2, a3, a4, k1, k2, q1, q2, l1, l2, ha, la⟩ := hp
  obtain ⟨b1, b2, b3, b4, kb1, kb2, qb1, qb2, lb1, lb2, hb, lb⟩ := hq
  have hT : takeR s.ge s.gu (E + 1) (now + 8) = ⟨E + 1, now + 8, 0⟩ := sw_take (by omega) (by omega) (by omega) (by omega) (.inl (by omega))
  refine ⟨hA, ?_, ?_, ?_, ?_, by omega⟩
  · unfold grantR
    rw [hT, if_neg (by omega), if_neg (by simp), if_neg (by rintro ⟨x, _⟩; omega), if_neg (by omega)]
  · exact ⟨rb_of (by omega) (by omega) (by omega) (by omega) (by omega) (by omega) (.inl (by omega)), by omega, n1, by omega, Int.le_refl _⟩
  · have z : (0 : Int) ≤ E + 1 := by omega
    have z8 : (0 : Int) ≤ now + 8 := by omega
    exact ⟨z, Int.le_refl _, z8, Int.le_refl _, z, Int.le_refl _, Int.le_refl 0, show (0 : Int) ≤ 4 by decide, l1, by omega, fun _ _ => ⟨rfl, rfl⟩, fun _ x => absurd x (Int.lt_irrefl _)⟩
  · refine ⟨b1, by omega, b3, b4, kb1, by omega, qb1, qb2, lb1, by omega, fun _ x => by omega, fun y1 _ => ?_⟩
    rcases Int.lt_or_eq_of_le b2 with d | d
    · exact lb y1 d
    · have := hb y1 d; omega
/-- Renew is granted: the switch takes it -/
theorem SdI.renewed {k : Nat} {p q E H U now : Int} {s o : Sw} {ls lo : Int} (b : BkI k E H U now) (hk : k < 400) (hp : SdI p E H U now s ls) (hq : SdI q E H U now o lo) (hp01 : p = 0 ∨ p = 1) (hpq : p ≠ q) (hac : s.ac = true) (hr : (renewR E H U p s.ge now).er = 0) :
    renewR E H U p s.ge now = ⟨E, H, now + 8, E, now + 8, 0⟩ ∧ (grantR s E (now + 8)).1 = ⟨s.p, E, now + 8, true, E, 0⟩ ∧ BkI (k + 1) E H (now + 8) now ∧
    SdI p E H (now + 8) now ⟨s.p, E, now + 8, true, E, 0⟩ ls ∧ SdI q E H (now + 8) now o lo := by
  obtain ⟨c1, c2, hA⟩ := sw_renew_yes hr
  obtain ⟨r1, r3, r4, r5, r7⟩ := b.right
  obtain ⟨r, e, n1, n2, u⟩ := b
  obtain ⟨a1, a2, a3, a4, k1, k2, q1, q2, l1, l2, ha, la⟩ := hp
  obtain ⟨b1, b2, b3, b4, kb1, kb2, qb1, qb2, lb1, lb2, hb, lb⟩ := hq
  rw [Int.max_eq_right u] at hA
  have h0 : 0 < E := by rcases r7 with x | x; exact x; omega
  have hT : takeR s.ge s.gu E (now + 8) = ⟨E, now + 8, 0⟩ := sw_take (by omega) (by omega) (by omega) (by omega) (.inr ⟨c1, a4⟩)
  refine ⟨hA, ?_, ?_, ?_, ?_⟩
  · unfold grantR
    rw [hT, if_neg (by omega), if_neg (by simp), if_neg (by rw [hac]; simp), if_neg (by omega)]
  · exact ⟨rb_of (by omega) (by omega) (by omega) (by omega) (by omega) (by omega) (.inl h0), by omega, n1, by omega, Int.le_refl _⟩
  · have z8 : (0 : Int) ≤ now + 8 := by omega
    exact ⟨r1, Int.le_refl _, z8, Int.le_refl _, r1, Int.le_refl _, Int.le_refl 0, show (0 : Int) ≤ 4 by decide, l1, l2, fun _ _ => ⟨c2.symm, rfl⟩, fun _ x => absurd x (Int.lt_irrefl _)⟩
  · refine ⟨b1, b2, b3, b4, kb1, kb2, qb1, qb2, lb1, lb2, fun y1 y2 => ?_, lb⟩
    have := hb y1 y2; omega
end Go.Proofs.Ytoedipajcmmhjaa
