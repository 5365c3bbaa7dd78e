/-
  The statement VoteKnown of chapter 12: what its walk wants of the other statements. (Begun.)
-/
import Derived.Test.YtamgaaakmldlbaaVoteLawB
import Derived.Test.YtamgaaakmldlbaaVoteLawD
namespace Go.Proofs.Ytamgaaakmldlbaa
open Go.RowKit
attribute [local irreducible] VSt.put VSt.fin VSt.stop VSt.reset VSt.step

theorem unlike_any (F G : Frm) (i : Int) (w : World) :
    Calls Try.prog 3 #[.agg #[.int .i64 F.c, .int .i64 F.e, .int .u64 F.p, .int .u32 F.q], .agg #[.int .i64 G.c, .int .i64 G.e, .int .u64 G.p, .int .u32 G.q], .int .i64 i] w
      fun e w' => e = .returned (.bool true) ∧ Below w.heap.size w w' := by
  by_cases h1 : F.c < 1
  · exact unlike_low F G i w (.inl h1)
  by_cases h2 : G.c < 1
  · exact unlike_low F G i w (.inr ⟨h1, h2⟩)
  rcases (show i % 2 = 0 ∨ i % 2 = 1 by omega) with hi | hi
  · by_cases h : F = G
    · subst h; exact unlike_same_0 F i w h1 hi
    · exact unlike_diff_0 F G i w h1 h2 h hi
  · by_cases h : F = G
    · subst h; exact unlike_same_1 F i w h1 hi
    · exact unlike_diff_1 F G i w h1 h2 h hi
/-- calls as cells -/
def callCells : List (Int × Int × Frm) → List Value
  | [] => []
  | c :: l => .int .i64 c.1 :: .int .i64 c.2.1 :: .int .i64 c.2.2.c :: .int .i64 c.2.2.e :: .int .u64 c.2.2.p :: .int .u32 c.2.2.q :: callCells l
theorem callCells_get (l : List (Int × Int × Frm)) : ∀ (i : Nat) (c : Int × Int × Frm), l[i]? = some c →
    (callCells l)[i * 6]? = some (.int .i64 c.1) ∧ (callCells l)[i * 6 + 1]? = some (.int .i64 c.2.1) ∧ (callCells l)[i * 6 + 2]? = some (.int .i64 c.2.2.c) ∧
    (callCells l)[i * 6 + 3]? = some (.int .i64 c.2.2.e) ∧ (callCells l)[i * 6 + 4]? = some (.int .u64 c.2.2.p) ∧ (callCells l)[i * 6 + 5]? = some (.int .u32 c.2.2.q) := by
  induction l with
  | nil => intro i c h; simp at h
  | cons d l ih =>
    intro i c h
    cases i with
    | zero => simp at h; subst h; exact ⟨rfl, rfl, rfl, rfl, rfl, rfl⟩
    | succ i =>
      obtain ⟨h0, h1, h2, h3, h4, h5⟩ := ih i c (by simpa using h)
      rw [show (i + 1) * 6 = i * 6 + 1 + 1 + 1 + 1 + 1 + 1 by omega]
      exact ⟨by simpa [callCells] using h0, by simpa [callCells] using h1, by simpa [callCells] using h2, by simpa [callCells] using h3, by simpa [callCells] using h4, by simpa [callCells] using h5⟩
/-- a literal row of calls -/
theorem calls_lit {w : World} {g : Nat} {t : TypeId} {fr : Nat × Nat} {C : Array Value} (l : List (Int × Int × Frm)) (hC : C.toList = callCells l) (hg : w.heap[g]? = some (.cells C t fr)) : CallsAt w (some ⟨g, 0, none⟩) l := by
  refine .inr ⟨g, 0, rfl, fun i c hi => ?_⟩
  obtain ⟨h0, h1, h2, h3, h4, h5⟩ := callCells_get l i c hi
  simp only [World.cell?, hg, Nat.zero_add, ← Array.getElem?_toList, hC]
  exact ⟨by simpa using h0, by simpa using h1, by simpa using h2, by simpa using h3, by simpa using h4, by simpa using h5⟩
end Go.Proofs.Ytamgaaakmldlbaa
