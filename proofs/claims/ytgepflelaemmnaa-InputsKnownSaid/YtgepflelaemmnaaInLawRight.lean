/-
  The law InputsRight.
-/
import Derived.Test.YtgepflelaemmnaaInArgs
import Derived.Test.YtgepflelaemmnaaCalm
import Derived.Test.YtgepflelaemmnaaInRefRight
namespace Go.Proofs.Ytgepflelaemmnaa
open Go.RowKit

theorem lens_of {w : World} {T e : TypeId} {x : Value} (hu : Try.prog.underlying T = some (.slice e)) (h : Rd Try.prog w T [x]) : ∃ a len cap, x = .slice a len cap ∧ len ≤ maxLen := by
  rcases h.slice hu with h | ⟨a, n, c, h, hlc, hcm, hel⟩
  · simp at h; exact ⟨_, _, _, h, Nat.zero_le _⟩
  · simp at h; exact ⟨_, _, _, h, Nat.le_trans hlc hcm⟩

theorem layout_of {w : World} {c : Array Value} (h : Rd Try.prog w 27 c.toList) : ∃ (a1 a2 a3 a4 : Option Addr) (s p g q cs cp cg cq : Nat),
    c = #[.slice a1 s cs, .slice a2 p cp, .slice a3 g cg, .slice a4 q cq] ∧ s ≤ maxLen ∧ p ≤ maxLen ∧ g ≤ maxLen ∧ q ≤ maxLen := by
  obtain ⟨hl, hf⟩ := h.fields (L := [(22, 0), (23, 1), (24, 2), (25, 3)]) (by kernel_rfl) (by kernel_rfl)
  rw [show Try.prog.cellsOf 27 = 4 by kernel_rfl] at hl
  match hc : c.toList, hl with
  | [x, y, z, t], _ =>
    rw [hc] at hf
    have h0 := hf (22, 0) (by simp)
    have h1 := hf (23, 1) (by simp)
    have h2 := hf (24, 2) (by simp)
    have h3 := hf (25, 3) (by simp)
    simp only [show Try.prog.cellsOf 22 = 1 by kernel_rfl, show Try.prog.cellsOf 23 = 1 by kernel_rfl, show Try.prog.cellsOf 24 = 1 by kernel_rfl, show Try.prog.cellsOf 25 = 1 by kernel_rfl] at h0 h1 h2 h3
    obtain ⟨a1, s, cs, rfl, hs⟩ := lens_of Try.underlying22 (x := x) (by simpa using h0)
    obtain ⟨a2, p, cp, rfl, hp⟩ := lens_of Try.underlying23 (x := y) (by simpa using h1)
    obtain ⟨a3, g, cg, rfl, hg⟩ := lens_of Try.underlying24 (x := z) (by simpa using h2)
    obtain ⟨a4, q, cq, rfl, hq⟩ := lens_of Try.underlying25 (x := t) (by simpa using h3)
    exact ⟨a1, a2, a3, a4, s, p, g, q, cs, cp, cg, cq, array_of_list hc, hs, hp, hg, hq⟩

set_option maxHeartbeats 1000000 in
theorem walk_InputsRight (v0 v1 : Array Value) (w : World) (_s0 : v0.size = Try.prog.cellsOf 27) (w0 : Rd Try.prog w 27 v0.toList) (_s1 : v1.size = Try.prog.cellsOf 32) (w1 : Rd Try.prog w 32 v1.toList) :
    Calls Try.prog 3 #[.agg v0, .agg v1] w fun e w' => e = .returned (.bool true) ∧ Below w.heap.size w w' := by
  obtain ⟨a1, a2, a3, a4, s, p, g, q, cs, cp, cg, cq, rfl, hs, hp, hg, hq⟩ := layout_of w0
  obtain ⟨o, n, r, a, len, ca, la, rfl, ho, hn, hr, hla, hlm, hca, hcaz⟩ := input_of w1
  have hs' : (s : Int) ≤ 9223372036854775807 := by unfold maxLen at hs; omega
  have hp' : (p : Int) ≤ 9223372036854775807 := by unfold maxLen at hp; omega
  have hq' : (q : Int) ≤ 9223372036854775807 := by unfold maxLen at hq; omega
  have hl' : (len : Int) ≤ 9223372036854775807 := by unfold maxLen at hlm; omega
  clear w0 w1 _s0 _s1
  by_cases h1 : 100 < s ∨ 100 < p ∨ 100 < q ∨ 100 < len
  · have HH : Hid True := Lib.hid trivial
    go_enter Try.func3, Try.ntmps3
    go_wp2_with fail
    all_goals first
      | (exfalso; omega)
      | (refine (works_any _).mono ?_
         rintro e w3 ⟨rfl, hb3⟩
         go_wp2_with fail
         go_ret
         exact ⟨rfl, below_on (below2' _ _ _) hb3⟩)
  have e1 : ¬ 100 < s := by omega
  have e2 : ¬ 100 < p := by omega
  have e3 : ¬ 100 < q := by omega
  have e4 : ¬ 100 < len := by omega
  clear h1 hs' hp' hq' hl'
  go_enter Try.func3, Try.ntmps3
  go_wp2_with fail
  have b0 := below2' w (Obj.cells #[Value.slice a1 s cs, Value.slice a2 p cp, Value.slice a3 g cg, Value.slice a4 q cq] 27) (Obj.cells #[Value.int IntKind.u64 ↑o, Value.int IntKind.u32 ↑n, Value.int IntKind.u32 ↑r, Value.slice a len ca] 32)
  obtain ⟨kA, kB⟩ := alloc2' w (Obj.cells #[Value.slice a1 s cs, Value.slice a2 p cp, Value.slice a3 g cg, Value.slice a4 q cq] 27) (Obj.cells #[Value.int IntKind.u64 ↑o, Value.int IntKind.u32 ↑n, Value.int IntKind.u32 ↑r, Value.slice a len ca] 32)
  obtain ⟨W, hW⟩ : ∃ W, W = (w.alloc (Obj.cells #[Value.slice a1 s cs, Value.slice a2 p cp, Value.slice a3 g cg, Value.slice a4 q cq] 27)).alloc (Obj.cells #[Value.int IntKind.u64 ↑o, Value.int IntKind.u32 ↑n, Value.int IntKind.u32 ↑r, Value.slice a len ca] 32) := ⟨_, rfl⟩
  rw [← hW] at b0 kA kB ⊢
  clear hW
  obtain ⟨B, hB⟩ : ∃ B, inRight (min s 64) (min p 32) (min q 64) o n r la = B := ⟨_, rfl⟩
  have c1 : ∀ w', Below W.heap.size W w' → Calls Try.prog 10 #[.agg #[.slice a1 s cs, .slice a2 p cp, .slice a3 g cg, .slice a4 q cq], .agg #[.int .u64 (o : Int), .int .u32 (n : Int), .int .u32 (r : Int), .slice a len ca]] w' fun e w'' => e = .returned (.bool B) ∧ Below W.heap.size W w'' :=
    fun w' hw' => (right_any s p g q a1 a2 a3 a4 cs cp cg cq o n r a la len ca w' hla (by omega) (by omega) (by omega) (by omega) (hca.below (below_on b0 hw')) hn hr).mono (fun e w9 ⟨h1, h2⟩ => ⟨hB ▸ h1, below_on hw' h2⟩)
  have c2 : ∀ w', Below W.heap.size W w' → Calls Try.prog 11 #[.agg #[.slice a1 s cs, .slice a2 p cp, .slice a3 g cg, .slice a4 q cq], .agg #[.int .u64 (o : Int), .int .u32 (n : Int), .int .u32 (r : Int), .slice a len ca]] w' fun e w'' => e = .returned (.bool B) ∧ Below W.heap.size W w'' :=
    fun w' hw' => (refright_any s p g q a1 a2 a3 a4 cs cp cg cq o n r a la len ca w' hla (by omega) (by omega) (by omega) (by omega) (hca.below (below_on b0 hw')) ho hn hr).mono (fun e w9 ⟨h1, h2⟩ => ⟨hB ▸ h1, below_on hw' h2⟩)
  have HX := Lib.hid hB
  have HY := Lib.hid hla
  clear hB hla ho hn hr hs hp hg hq hlm hcaz e1 e2 e3 e4
  refine wp_region_calm (by kernel_rfl) (by kernel_rfl) ?_
  repeat
    (refine wpQuiet_step (fun K hK => ?_)
     go_simp
     first
       | (refine hK _ ?_; clear hK K)
       | (apply Exists.intro
          refine ⟨fun w' hw' => ?_, hK _ ?_⟩
          ·
                (first
                 | exact (works_any _).mono (fun e w9 ⟨h1, h2⟩ => ⟨h1, below_on hw' h2⟩)
                 | with_reducible exact c1 _ hw'
                 | with_reducible exact c2 _ hw'
                 | (have kA' := blk_keep hw' kA
                    have kB' := blk_keep hw' kB
                    have eA0 := blk_cell kA' 0 _ rfl
                    have eA1 := blk_cell kA' 1 _ rfl
                    have eA2 := blk_cell kA' 2 _ rfl
                    have eA3 := blk_cell kA' 3 _ rfl
                    have eB0 := blk_cell kB' 0 _ rfl
                    have eB1 := blk_cell kB' 1 _ rfl
                    have eB2 := blk_cell kB' 2 _ rfl
                    have eB3 := blk_cell kB' 3 _ rfl
                    go_simp
                    first | done | exact rfl | exact ⟨rfl, rfl⟩ | exact c1 _ hw' | exact c2 _ hw'))
          clear hK K))
  refine wpQuiet_nil ?_
  intro w5 hw5
  go_wp2_with fail
  go_ret
  exact ⟨rfl, below_on b0 hw5⟩
end Go.Proofs.Ytgepflelaemmnaa
