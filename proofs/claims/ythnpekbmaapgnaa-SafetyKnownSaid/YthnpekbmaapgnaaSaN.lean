/-
  Layer 29: readings of inputs and outputs; the walk of SafetyCycle.
-/
import Derived.Test.YthnpekbmaapgnaaSaM
import Derived.Test.YthnpekbmaapgnaaMA
namespace Go.Proofs.Ythnpekbmaapgnaa
open Go.RowKit
set_option maxRecDepth 100000
theorem u64_nat {a : Int} (h : (Lit.int .u64 a).wf = true) : ∃ n : Nat, a = n ∧ n < 18446744073709551616 := by have := bounds_u64 h; exact ⟨a.toNat, by omega, by omega⟩
theorem u32_nat {a : Int} (h : (Lit.int .u32 a).wf = true) : ∃ n : Nat, a = n ∧ n < 4294967296 := by have := bounds_u32 h; exact ⟨a.toNat, by omega, by omega⟩
theorem input_rd {w : World} {c : Array Value} (h : Rd Try.prog w 32 c.toList) : ∃ (o n r : Nat) (a : Option Addr) (len cap : Nat),
    c = #[.int .u64 (o : Int), .int .u32 (n : Int), .int .u32 (r : Int), .slice a len cap] ∧ o < 18446744073709551616 ∧ n < 4294967296 ∧ r < 4294967296 := by
  obtain ⟨hl, hf⟩ := h.fields (L := [(28, 0), (29, 1), (29, 2), (30, 3)]) (by kernel_rfl) (by kernel_rfl)
  rw [show Try.prog.cellsOf 32 = 4 by kernel_rfl] at hl
  match hc : c.toList, hl with
  | [x, y, z, t], _ =>
    rw [hc] at hf
    have h0 := hf (28, 0) (by simp)
    have h1 := hf (29, 1) (by simp)
    have h2 := hf (29, 2) (by simp)
    have h3 := hf (30, 3) (by simp)
    simp only [show Try.prog.cellsOf 28 = 1 by kernel_rfl, show Try.prog.cellsOf 29 = 1 by kernel_rfl, show Try.prog.cellsOf 30 = 1 by kernel_rfl] at h0 h1 h2 h3
    obtain ⟨o, ho, wo⟩ := h0.int Try.underlying28
    obtain ⟨n, hn, wn⟩ := h1.int Try.underlying29
    obtain ⟨r, hr, wr⟩ := h2.int Try.underlying29
    have hsl := h3.slice Try.underlying30
    simp at ho hn hr
    subst ho; subst hn; subst hr
    obtain ⟨o, rfl, ho⟩ := u64_nat wo
    obtain ⟨n, rfl, hn⟩ := u32_nat wn
    obtain ⟨r, rfl, hr⟩ := u32_nat wr
    have hform : ∃ a len cap, t = .slice a len cap := by
      rcases hsl with h | ⟨x, n, c, h, _⟩
      · simp at h; exact ⟨_, _, _, h⟩
      · simp at h; exact ⟨_, _, _, h⟩
    obtain ⟨a, len, cap, rfl⟩ := hform
    exact ⟨o, n, r, a, len, cap, array_of_list hc, ho, hn, hr⟩
theorem output_rd {w : World} {c : Array Value} (h : Rd Try.prog w 34 c.toList) : ∃ (p q : Nat), c = #[.int .u64 (p : Int), .int .u32 (q : Int)] ∧ p < 18446744073709551616 ∧ q < 4294967296 := by
  obtain ⟨hl, hf⟩ := h.fields (L := [(28, 0), (29, 1)]) (by kernel_rfl) (by kernel_rfl)
  rw [show Try.prog.cellsOf 34 = 2 by kernel_rfl] at hl
  match hc : c.toList, hl with
  | [x, y], _ =>
    rw [hc] at hf
    have h0 := hf (28, 0) (by simp)
    have h1 := hf (29, 1) (by simp)
    simp only [show Try.prog.cellsOf 28 = 1 by kernel_rfl, show Try.prog.cellsOf 29 = 1 by kernel_rfl] at h0 h1
    obtain ⟨o, ho, wo⟩ := h0.int Try.underlying28
    obtain ⟨n, hn, wn⟩ := h1.int Try.underlying29
    simp at ho hn
    subst ho; subst hn
    obtain ⟨o, rfl, ho⟩ := u64_nat wo
    obtain ⟨n, rfl, hn⟩ := u32_nat wn
    exact ⟨o, n, array_of_list hc, ho, hn⟩
theorem walk_SafetyCycle (v0 v1 v2 : Array Value) (w : World) (_s0 : v0.size = Try.prog.cellsOf 27) (w0 : Rd Try.prog w 27 v0.toList) (_s1 : v1.size = Try.prog.cellsOf 32) (w1 : Rd Try.prog w 32 v1.toList) (_s2 : v2.size = Try.prog.cellsOf 34) (w2 : Rd Try.prog w 34 v2.toList) :
    Calls Try.prog 3 #[.agg v0, .agg v1, .agg v2] w fun e w' => e = .returned (.bool true) ∧ Below w.heap.size w w' := by
  obtain ⟨L, hv, hL⟩ := lay_of w0
  obtain rfl : v0 = #[L.se.v, L.po.v, L.sg.v, L.rt.v] := by apply Array.toList_inj.1; rw [hv]
  obtain ⟨o, n, r, a, len, cap, rfl, ho, hn, hr⟩ := input_rd w1
  obtain ⟨p, q, rfl, hp, hq⟩ := output_rd w2
  exact safetyCycle_is L o n r p q a len cap ho hp hq hn hr w hL
end Go.Proofs.Ythnpekbmaapgnaa
