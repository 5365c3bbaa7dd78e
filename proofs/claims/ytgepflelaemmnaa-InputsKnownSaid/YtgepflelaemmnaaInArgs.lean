/-
  Inputs and layouts that came in: what their readings give.
-/
import Derived.Test.YtgepflelaemmnaaInLaws
import Derived.Test.YtgepflelaemmnaaRead2
namespace Go.Proofs.Ytgepflelaemmnaa
open Go.RowKit

theorem cmd_of {w : World} {cs : List Value} (h : Rd Try.prog w 38 cs) : ∃ (k : Nat) (n : Int), cs = [.int .u8 (k : Int), .int .i64 n] ∧ k < 256 ∧ -9223372036854775808 ≤ n ∧ n ≤ 9223372036854775807 := by
  obtain ⟨hl, hf⟩ := h.fields (L := [(5, 0), (3, 1)]) (by kernel_rfl) (by kernel_rfl)
  rw [show Try.prog.cellsOf 38 = 2 by kernel_rfl] at hl
  match cs, hl with
  | [x, y], _ =>
    have h0 := hf (5, 0) (by simp)
    have h1 := hf (3, 1) (by simp)
    simp only [show Try.prog.cellsOf 5 = 1 by kernel_rfl, show Try.prog.cellsOf 3 = 1 by kernel_rfl] at h0 h1
    obtain ⟨a, ha, wa⟩ := h0.int Try.underlying5
    obtain ⟨b, hb, wb⟩ := h1.int Try.underlying3
    simp at ha hb
    obtain ⟨k, rfl, hk⟩ := u8_nat wa
    have := bounds_i64 wb
    exact ⟨k, b, by rw [ha, hb], hk, this.1, by omega⟩
theorem cmds_of {w : World} {a : Option Addr} {len cap : Nat} (h : Rd Try.prog w 30 [.slice a len cap]) : ∃ l : List (Nat × Int), l.length = len ∧ len ≤ maxLen ∧ CmdsAt w a l ∧ (a = none → cap = 0) := by
  rcases h.slice Try.underlying30 with h | ⟨x, n, c, h, hlc, hcm, hel⟩
  · simp only [List.cons.injEq, Value.slice.injEq, and_true] at h
    obtain ⟨rfl, rfl, rfl⟩ := h
    exact ⟨[], rfl, Nat.zero_le _, cmds_nil _ _, fun _ => rfl⟩
  · simp only [List.cons.injEq, Value.slice.injEq, and_true] at h
    obtain ⟨rfl, rfl, rfl⟩ := h
    have hsz : Try.prog.cellsOf 38 = 2 := by kernel_rfl
    have H : ∀ i, i < len → ∃ c : Nat × Int, (c.1 < 256 ∧ -9223372036854775808 ≤ c.2 ∧ c.2 ≤ 9223372036854775807) ∧ w.cell? ((x.add (i * 2)).add 0) = some (.int .u8 (c.1 : Int)) ∧ w.cell? ((x.add (i * 2)).add 1) = some (.int .i64 c.2) := by
      intro i hi
      obtain ⟨ecs, he, hr⟩ := hel i (by omega)
      rw [hsz] at he
      obtain ⟨k, n, rfl, hk, hn1, hn2⟩ := cmd_of hr
      obtain ⟨_, hg⟩ := cells_get he
      obtain ⟨v0, g0, c0⟩ := hg 0 (by omega)
      obtain ⟨v1, g1, c1⟩ := hg 1 (by omega)
      simp at g0 g1
      subst g0; subst g1
      exact ⟨(k, n), ⟨hk, hn1, hn2⟩, c0, c1⟩
    obtain ⟨l, hl, hq⟩ := list_of len H
    refine ⟨l, hl, Nat.le_trans hlc hcm, ⟨fun c hc => ?_, ?_⟩, fun h => by cases h⟩
    · obtain ⟨i, hi⟩ := List.getElem?_of_mem hc
      exact (hq i c hi).1
    · rcases l with _ | ⟨c0, l⟩
      · exact .inl rfl
      · right
        have h0 := (hq 0 c0 rfl).2.1
        have hs : x.spot = none := World.cell?_spot (show w.cell? x = some _ by simpa [Addr.add] using h0)
        obtain ⟨b, off, spot⟩ := x
        subst hs
        refine ⟨b, off, rfl, fun i c hi => ?_⟩
        obtain ⟨_, q1, q2⟩ := hq i c hi
        simp only [Addr.add_lit, Nat.add_zero] at q1 q2
        exact ⟨q1, q2⟩
theorem input_of {w : World} {c : Array Value} (h : Rd Try.prog w 32 c.toList) : ∃ (o n r : Nat) (a : Option Addr) (len cap : Nat) (l : List (Nat × Int)),
    c = #[.int .u64 (o : Int), .int .u32 (n : Int), .int .u32 (r : Int), .slice a len cap] ∧ o < 18446744073709551616 ∧ n < 4294967296 ∧ r < 4294967296 ∧ l.length = len ∧ len ≤ maxLen ∧ CmdsAt w a l ∧ (a = none → cap = 0) := by
  obtain ⟨hl, hf⟩ := h.fields (L := [(28, 0), (29, 1), (29, 2), (30, 3)]) (by kernel_rfl) (by kernel_rfl)
  rw [show Try.prog.cellsOf 32 = 4 by kernel_rfl] at hl
  match hc : c.toList, hl with
  | [x, y, z, t], _ =>
    rw [hc] at hf
    have h0 := hf (28, 0) (by simp)
    have h1 := hf (29, 1) (by simp)
    have h2 := hf (29, 2) (by simp)
    have h3 := hf (30, 3) (by simp)
    simp only [show Try.prog.cellsOf 28 = 1 by kernel_rfl, show Try.prog.cellsOf 29 = 1 by kernel_rfl, show Try.prog.cellsOf 30 = 1 by kernel_rfl] at h0 h1 h2 h3
    obtain ⟨o, ho, wo⟩ := h0.int Try.underlying28
    obtain ⟨n, hn, wn⟩ := h1.int Try.underlying29
    obtain ⟨r, hr, wr⟩ := h2.int Try.underlying29
    have hsl := h3.slice Try.underlying30
    simp at ho hn hr
    subst ho; subst hn; subst hr
    obtain ⟨o, rfl, ho⟩ := u64_nat wo
    obtain ⟨n, rfl, hn⟩ := u32_nat wn
    obtain ⟨r, rfl, hr⟩ := u32_nat wr
    have hform : ∃ a len cap, t = .slice a len cap := by
      rcases hsl with h | ⟨x, n, c, h, _⟩
      · simp at h; exact ⟨_, _, _, h⟩
      · simp at h; exact ⟨_, _, _, h⟩
    obtain ⟨a, len, cap, rfl⟩ := hform
    obtain ⟨l, hl1, hl2, hl3, hl4⟩ := cmds_of (a := a) (len := len) (cap := cap) (by simpa using h3)
    exact ⟨o, n, r, a, len, cap, l, array_of_list hc, ho, hn, hr, hl1, hl2, hl3, hl4⟩
end Go.Proofs.Ytgepflelaemmnaa
