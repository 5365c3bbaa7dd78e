/-
  SwitchoverFences: what the book's answer makes of a switch; no program in sight.
-/
import Derived.Test.YtoedipajcmmhjaaSwP
namespace Go.Proofs.Ytoedipajcmmhjaa
open Go.RowKit

def gotS (s : Sw) (ge gu er : Int) : Sw := if er = 0 then (grantR s ge gu).1 else (refR s).1
theorem sw_got {w : World} {g : Nat} {s : Sw} {ge gu er : Int} (hy : er = 0 → SwAt w g (grantR s ge gu).1) (hn : ¬ er = 0 → SwAt w g (refR s).1) : SwAt w g (gotS s ge gu er) := by
  unfold gotS
  by_cases h : er = 0
  · rw [if_pos h]; exact hy h
  · rw [if_neg h]; exact hn h
theorem ask_all {k : Nat} {p q E H U now : Int} {s o : Sw} {ls lo e h u ge gu er : Int} (b : BkI k E H U now) (hk : k < 400) (hp : SdI p E H U now s ls) (hq : SdI q E H U now o lo) (hp01 : p = 0 ∨ p = 1) (hpq : q = 1 - p) (hR : askR E H U p now = ⟨e, h, u, ge, gu, er⟩) :
    BkI (k + 1) e h u now ∧ SdI p e h u now (gotS s ge gu er) ls ∧ SdI q e h u now o lo ∧ ((gotS s ge gu er).ac = true → ls < (gotS s ge gu er).ge) := by
  by_cases her : er = 0
  · have h0 : (askR E H U p now).er = 0 := by rw [hR]; exact her
    obtain ⟨hA, hG, h1, h2, h3, h4⟩ := SdI.asked b hk hp hq hp01 hpq h0
    rw [hR] at hA
    cases hA
    have hg : gotS s (E + 1) (now + 8) 0 = ⟨s.p, E + 1, now + 8, true, E + 1, 0⟩ := by unfold gotS; rw [if_pos rfl]; exact hG
    rw [hg]
    exact ⟨h1, h2, h3, fun _ => h4⟩
  · have h0 : (askR E H U p now).er ≠ 0 := by rw [hR]; exact her
    have h1 := sw_ask_no h0
    rw [hR] at h1
    obtain ⟨rfl, rfl, rfl⟩ := h1
    have hg : gotS s ge gu er = (refR s).1 := by unfold gotS; rw [if_neg her]
    rw [hg]
    exact ⟨b.next, hp.ref, hq, fun x => by rw [ref_ac] at x; exact absurd x (by decide)⟩
theorem renew_all {k : Nat} {p q E H U now : Int} {s o : Sw} {ls lo e h u ge gu er : Int} (b : BkI k E H U now) (hk : k < 400) (hp : SdI p E H U now s ls) (hq : SdI q E H U now o lo) (hp01 : p = 0 ∨ p = 1) (hpq : p ≠ q) (hac : s.ac = true) (hR : renewR E H U p s.ge now = ⟨e, h, u, ge, gu, er⟩) :
    BkI (k + 1) e h u now ∧ SdI p e h u now (gotS s ge gu er) ls ∧ SdI q e h u now o lo := by
  by_cases her : er = 0
  · have h0 : (renewR E H U p s.ge now).er = 0 := by rw [hR]; exact her
    obtain ⟨hA, hG, h1, h2, h3⟩ := SdI.renewed b hk hp hq hp01 hpq hac h0
    rw [hR] at hA
    cases hA
    have hg : gotS s E (now + 8) 0 = ⟨s.p, E, now + 8, true, E, 0⟩ := by unfold gotS; rw [if_pos rfl]; exact hG
    rw [hg]
    exact ⟨h1, h2, h3⟩
  · have h0 : (renewR E H U p s.ge now).er ≠ 0 := by rw [hR]; exact her
    have h1 := sw_renew_no h0
    rw [hR] at h1
    obtain ⟨rfl, rfl, rfl⟩ := h1
    have hg : gotS s ge gu er = (refR s).1 := by unfold gotS; rw [if_neg her]
    rw [hg]
    exact ⟨b.next, hp.ref, hq⟩
/-- what stands behind a row's pointer, and in a step, stays in every later world -/
theorem sw_slow {k : Nat} {E H U now d : Int} (b : BkI k E H U now) (hk : k ≤ 400) (d1 : 0 ≤ d) (d2 : d ≤ 2) : wrap64 (now - d) = now - d ∧ IntKind.i64.wrap (now - d) = now - d := by
  have := b.n1; have := b.n2
  constructor
  · unfold wrap64; omega
  · rw [IntKind.wrap_i64]; omega
end Go.Proofs.Ytoedipajcmmhjaa
