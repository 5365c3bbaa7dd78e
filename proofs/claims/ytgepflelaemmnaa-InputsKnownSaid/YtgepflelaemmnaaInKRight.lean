/-
  InputsRight, over facts.
-/
import Derived.Test.YtgepflelaemmnaaInLawRight
namespace Go.Proofs.Ytgepflelaemmnaa
open Go.RowKit

set_option maxHeartbeats 1000000 in
theorem inputsRight_law (w : World) (a1 a2 a3 a4 : Option Addr) (s p g q cs cp cg cq : Nat) (hs : s ≤ maxLen) (hp : p ≤ maxLen) (_hg : g ≤ maxLen) (hq : q ≤ maxLen) (o n r : Nat) (a : Option Addr) (len ca : Nat) (la : List (Nat × Int)) (ho : o < 18446744073709551616) (hn : n < 4294967296) (hr : r < 4294967296) (hla : la.length = len) (hlm : len ≤ maxLen) (hca : CmdsAt w a la) (_hcaz : a = none → ca = 0) :
    Calls Try.prog 3 #[.agg #[.slice a1 s cs, .slice a2 p cp, .slice a3 g cg, .slice a4 q cq], .agg #[.int .u64 (o : Int), .int .u32 (n : Int), .int .u32 (r : Int), .slice a len ca]] w fun e w' => e = .returned (.bool true) ∧ Below w.heap.size w w' := by
  have hs' : (s : Int) ≤ 9223372036854775807 := by unfold maxLen at hs; omega
  have hp' : (p : Int) ≤ 9223372036854775807 := by unfold maxLen at hp; omega
  have hq' : (q : Int) ≤ 9223372036854775807 := by unfold maxLen at hq; omega
  have hl' : (len : Int) ≤ 9223372036854775807 := by unfold maxLen at hlm; omega
  skip
  by_cases h1 : 100 < s ∨ 100 < p ∨ 100 < q ∨ 100 < len
  · have HH : Hid True := Lib.hid trivial
    go_enter Try.func3, Try.ntmps3
    go_wp2_with fail
    all_goals first
      | (exfalso; omega)
      | (refine (works_any _).mono ?_
         rintro e w3 ⟨rfl, hb3⟩
         go_wp2_with fail
         go_ret
         exact ⟨rfl, below_on (below2' _ _ _) hb3⟩)
  have e1 : ¬ 100 < s := by omega
  have e2 : ¬ 100 < p := by omega
  have e3 : ¬ 100 < q := by omega
  have e4 : ¬ 100 < len := by omega
  clear h1 hs' hp' hq' hl'
  go_enter Try.func3, Try.ntmps3
  go_wp2_with fail
  have b0 := below2' w (Obj.cells #[Value.slice a1 s cs, Value.slice a2 p cp, Value.slice a3 g cg, Value.slice a4 q cq] 27) (Obj.cells #[Value.int IntKind.u64 ↑o, Value.int IntKind.u32 ↑n, Value.int IntKind.u32 ↑r, Value.slice a len ca] 32)
  obtain ⟨kA, kB⟩ := alloc2' w (Obj.cells #[Value.slice a1 s cs, Value.slice a2 p cp, Value.slice a3 g cg, Value.slice a4 q cq] 27) (Obj.cells #[Value.int IntKind.u64 ↑o, Value.int IntKind.u32 ↑n, Value.int IntKind.u32 ↑r, Value.slice a len ca] 32)
  obtain ⟨W, hW⟩ : ∃ W, W = (w.alloc (Obj.cells #[Value.slice a1 s cs, Value.slice a2 p cp, Value.slice a3 g cg, Value.slice a4 q cq] 27)).alloc (Obj.cells #[Value.int IntKind.u64 ↑o, Value.int IntKind.u32 ↑n, Value.int IntKind.u32 ↑r, Value.slice a len ca] 32) := ⟨_, rfl⟩
  rw [← hW] at b0 kA kB ⊢
  clear hW
  obtain ⟨B, hB⟩ : ∃ B, inRight (min s 64) (min p 32) (min q 64) o n r la = B := ⟨_, rfl⟩
  have c1 : ∀ w', Below W.heap.size W w' → Calls Try.prog 10 #[.agg #[.slice a1 s cs, .slice a2 p cp, .slice a3 g cg, .slice a4 q cq], .agg #[.int .u64 (o : Int), .int .u32 (n : Int), .int .u32 (r : Int), .slice a len ca]] w' fun e w'' => e = .returned (.bool B) ∧ Below W.heap.size W w'' :=
    fun w' hw' => (right_any s p g q a1 a2 a3 a4 cs cp cg cq o n r a la len ca w' hla (by omega) (by omega) (by omega) (by omega) (hca.below (below_on b0 hw')) hn hr).mono (fun e w9 ⟨h1, h2⟩ => ⟨hB ▸ h1, below_on hw' h2⟩)
  have c2 : ∀ w', Below W.heap.size W w' → Calls Try.prog 11 #[.agg #[.slice a1 s cs, .slice a2 p cp, .slice a3 g cg, .slice a4 q cq], .agg #[.int .u64 (o : Int), .int .u32 (n : Int), .int .u32 (r : Int), .slice a len ca]] w' fun e w'' => e = .returned (.bool B) ∧ Below W.heap.size W w'' :=
    fun w' hw' => (refright_any s p g q a1 a2 a3 a4 cs cp cg cq o n r a la len ca w' hla (by omega) (by omega) (by omega) (by omega) (hca.below (below_on b0 hw')) ho hn hr).mono (fun e w9 ⟨h1, h2⟩ => ⟨hB ▸ h1, below_on hw' h2⟩)
  have HX := Lib.hid hB
  have HY := Lib.hid hla
  clear hB hla ho hn hr hs hp hq hlm e1 e2 e3 e4
  refine wp_region_calm (by kernel_rfl) (by kernel_rfl) ?_
  repeat
    (refine wpQuiet_step (fun K hK => ?_)
     go_simp
     first
       | (refine hK _ ?_; clear hK K)
       | (apply Exists.intro
          refine ⟨fun w' hw' => ?_, hK _ ?_⟩
          ·
                (first
                 | exact (works_any _).mono (fun e w9 ⟨h1, h2⟩ => ⟨h1, below_on hw' h2⟩)
                 | with_reducible exact c1 _ hw'
                 | with_reducible exact c2 _ hw'
                 | (have kA' := blk_keep hw' kA
                    have kB' := blk_keep hw' kB
                    have eA0 := blk_cell kA' 0 _ rfl
                    have eA1 := blk_cell kA' 1 _ rfl
                    have eA2 := blk_cell kA' 2 _ rfl
                    have eA3 := blk_cell kA' 3 _ rfl
                    have eB0 := blk_cell kB' 0 _ rfl
                    have eB1 := blk_cell kB' 1 _ rfl
                    have eB2 := blk_cell kB' 2 _ rfl
                    have eB3 := blk_cell kB' 3 _ rfl
                    go_simp
                    first | done | exact rfl | exact ⟨rfl, rfl⟩ | exact c1 _ hw' | exact c2 _ hw'))
          clear hK K))
  refine wpQuiet_nil ?_
  intro w5 hw5
  go_wp2_with fail
  go_ret
  exact ⟨rfl, below_on b0 hw5⟩
end Go.Proofs.Ytgepflelaemmnaa
