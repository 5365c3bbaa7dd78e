/-
  The walk of the statement InputsSame of chapter 9.
-/
import Derived.Test.YtgepflelaemmnaaInArgs
import Derived.Test.YtgepflelaemmnaaCalm
namespace Go.Proofs.Ytgepflelaemmnaa
open Go.RowKit
theorem same_is (B : Bool) (o1 n1 r1 o2 n2 r2 : Nat) (a b : Option Addr) (la lb : List (Nat × Int)) (n m ca cb : Nat) (w : World) (hB : decide (o1 = o2 ∧ n1 = n2 ∧ r1 = r2 ∧ la = lb) = B) (hn : la.length = n) (hm : lb.length = m) (hnl : n ≤ 1000) (hml : m ≤ 1000) (ha : CmdsAt w a la) (hb : CmdsAt w b lb) :
    Calls Try.prog 17 #[.agg #[.int .u64 (o1 : Int), .int .u32 (n1 : Int), .int .u32 (r1 : Int), .slice a n ca], .agg #[.int .u64 (o2 : Int), .int .u32 (n2 : Int), .int .u32 (r2 : Int), .slice b m cb]] w
      fun e w' => e = .returned (.bool B) ∧ Below w.heap.size w w' := by
  subst hB; exact same_any o1 n1 r1 o2 n2 r2 a b la lb n m ca cb w hn hm hnl hml ha hb
theorem refsame_is (B : Bool) (o1 n1 r1 o2 n2 r2 : Nat) (a b : Option Addr) (la lb : List (Nat × Int)) (n m ca cb : Nat) (w : World) (hB : decide (o1 = o2 ∧ n1 = n2 ∧ r1 = r2 ∧ la = lb) = B) (hn : la.length = n) (hm : lb.length = m) (hnl : n ≤ 1000) (hml : m ≤ 1000) (ha : CmdsAt w a la) (hb : CmdsAt w b lb) :
    Calls Try.prog 14 #[.agg #[.int .u64 (o1 : Int), .int .u32 (n1 : Int), .int .u32 (r1 : Int), .slice a n ca], .agg #[.int .u64 (o2 : Int), .int .u32 (n2 : Int), .int .u32 (r2 : Int), .slice b m cb]] w
      fun e w' => e = .returned (.bool B) ∧ Below w.heap.size w w' := by
  subst hB; exact refsame_any o1 n1 r1 o2 n2 r2 a b la lb n m ca cb w hn hm hnl hml ha hb

set_option maxHeartbeats 1000000 in
theorem walk_InputsSame (v0 v1 : Array Value) (w : World) (_s0 : v0.size = Try.prog.cellsOf 32) (w0 : Rd Try.prog w 32 v0.toList) (_s1 : v1.size = Try.prog.cellsOf 32) (w1 : Rd Try.prog w 32 v1.toList) :
    Calls Try.prog 6 #[.agg v0, .agg v1] w fun e w' => e = .returned (.bool true) ∧ Below w.heap.size w w' := by
  obtain ⟨o1, n1, r1, a, n, ca, la, rfl, ho1, hn1, hr1, hla, hlm, hca, hcaz⟩ := input_of w0
  obtain ⟨o2, n2, r2, b, m, cb, lb, rfl, ho2, hn2, hr2, hlb, hlbm, hcb, hcbz⟩ := input_of w1
  have hm1 : (n : Int) ≤ 9223372036854775807 := by unfold maxLen at hlm; omega
  have hm2 : (m : Int) ≤ 9223372036854775807 := by unfold maxLen at hlbm; omega
  clear w0 w1 _s0 _s1
  by_cases h1 : 100 < n
  · go_enter Try.func6, Try.ntmps6
    go_wp2_with fail
    refine (works_any _).mono ?_
    rintro e w3 ⟨rfl, hb3⟩
    go_wp2_with fail
    go_ret
    exact ⟨rfl, below_on (below2' _ _ _) hb3⟩
  by_cases h2 : 100 < m
  · go_enter Try.func6, Try.ntmps6
    go_wp2_with fail
    refine (works_any _).mono ?_
    rintro e w3 ⟨rfl, hb3⟩
    go_wp2_with fail
    go_ret
    exact ⟨rfl, below_on (below2' _ _ _) hb3⟩
  obtain ⟨B, hB⟩ : ∃ B, decide (o1 = o2 ∧ n1 = n2 ∧ r1 = r2 ∧ la = lb) = B := ⟨_, rfl⟩
  have HB2 : Hid (decide (o2 = o1 ∧ n2 = n1 ∧ r2 = r1 ∧ lb = la) = B) := Lib.hid (by rw [← hB]; congr 1; rw [eq_comm (a := o2), eq_comm (a := n2), eq_comm (a := r2), eq_comm (a := lb)])
  have HB := Lib.hid hB
  have HLA := Lib.hid hla
  have HLB := Lib.hid hlb
  clear hB hla hlb hm1 hm2 ho1 ho2 hn1 hn2 hr1 hr2
  go_enter Try.func6, Try.ntmps6
  go_wp2_with fail
  have b0 := below2' w (Obj.cells #[Value.int IntKind.u64 ↑o1, Value.int IntKind.u32 ↑n1, Value.int IntKind.u32 ↑r1, Value.slice a n ca] 32) (Obj.cells #[Value.int IntKind.u64 ↑o2, Value.int IntKind.u32 ↑n2, Value.int IntKind.u32 ↑r2, Value.slice b m cb] 32)
  obtain ⟨kA, kB⟩ := alloc2' w (Obj.cells #[Value.int IntKind.u64 ↑o1, Value.int IntKind.u32 ↑n1, Value.int IntKind.u32 ↑r1, Value.slice a n ca] 32) (Obj.cells #[Value.int IntKind.u64 ↑o2, Value.int IntKind.u32 ↑n2, Value.int IntKind.u32 ↑r2, Value.slice b m cb] 32)
  obtain ⟨W, hW⟩ : ∃ W, W = (w.alloc (Obj.cells #[Value.int IntKind.u64 ↑o1, Value.int IntKind.u32 ↑n1, Value.int IntKind.u32 ↑r1, Value.slice a n ca] 32)).alloc (Obj.cells #[Value.int IntKind.u64 ↑o2, Value.int IntKind.u32 ↑n2, Value.int IntKind.u32 ↑r2, Value.slice b m cb] 32) := ⟨_, rfl⟩
  rw [← hW] at b0 kA kB ⊢
  clear hW
  have c1 : ∀ w', Below W.heap.size W w' → Calls Try.prog 17 #[.agg #[.int .u64 (o1 : Int), .int .u32 (n1 : Int), .int .u32 (r1 : Int), .slice a n ca], .agg #[.int .u64 (o2 : Int), .int .u32 (n2 : Int), .int .u32 (r2 : Int), .slice b m cb]] w' fun e w'' => e = .returned (.bool B) ∧ Below W.heap.size W w'' :=
    fun w' hw' => (same_is B o1 n1 r1 o2 n2 r2 a b la lb n m ca cb w' HB.out HLA.out HLB.out (by omega) (by omega) (hca.below (below_on b0 hw')) (hcb.below (below_on b0 hw'))).mono (fun e w9 ⟨h1, h2⟩ => ⟨h1, below_on hw' h2⟩)
  have c2 : ∀ w', Below W.heap.size W w' → Calls Try.prog 14 #[.agg #[.int .u64 (o1 : Int), .int .u32 (n1 : Int), .int .u32 (r1 : Int), .slice a n ca], .agg #[.int .u64 (o2 : Int), .int .u32 (n2 : Int), .int .u32 (r2 : Int), .slice b m cb]] w' fun e w'' => e = .returned (.bool B) ∧ Below W.heap.size W w'' :=
    fun w' hw' => (refsame_is B o1 n1 r1 o2 n2 r2 a b la lb n m ca cb w' HB.out HLA.out HLB.out (by omega) (by omega) (hca.below (below_on b0 hw')) (hcb.below (below_on b0 hw'))).mono (fun e w9 ⟨h1, h2⟩ => ⟨h1, below_on hw' h2⟩)
  have c3 : ∀ w', Below W.heap.size W w' → Calls Try.prog 17 #[.agg #[.int .u64 (o2 : Int), .int .u32 (n2 : Int), .int .u32 (r2 : Int), .slice b m cb], .agg #[.int .u64 (o1 : Int), .int .u32 (n1 : Int), .int .u32 (r1 : Int), .slice a n ca]] w' fun e w'' => e = .returned (.bool B) ∧ Below W.heap.size W w'' :=
    fun w' hw' => (same_is B o2 n2 r2 o1 n1 r1 b a lb la m n cb ca w' HB2.out HLB.out HLA.out (by omega) (by omega) (hcb.below (below_on b0 hw')) (hca.below (below_on b0 hw'))).mono (fun e w9 ⟨h1, h2⟩ => ⟨h1, below_on hw' h2⟩)
  have c4 : ∀ w', Below W.heap.size W w' → Calls Try.prog 17 #[.agg #[.int .u64 (o1 : Int), .int .u32 (n1 : Int), .int .u32 (r1 : Int), .slice a n ca], .agg #[.int .u64 (o1 : Int), .int .u32 (n1 : Int), .int .u32 (r1 : Int), .slice a n ca]] w' fun e w'' => e = .returned (.bool true) ∧ Below W.heap.size W w'' :=
    fun w' hw' => (same_is true o1 n1 r1 o1 n1 r1 a a la la n n ca ca w' (by simp) HLA.out HLA.out (by omega) (by omega) (hca.below (below_on b0 hw')) (hca.below (below_on b0 hw'))).mono (fun e w9 ⟨h1, h2⟩ => ⟨h1, below_on hw' h2⟩)
  refine wp_region_calm (by kernel_rfl) (by kernel_rfl) ?_
  repeat
    (refine wpQuiet_step (fun K hK => ?_)
     go_simp
     first
       | (refine hK _ ?_; clear hK K)
       | (apply Exists.intro
          refine ⟨fun w' hw' => ?_, hK _ ?_⟩
          ·
                (first
                 | exact (works_any _).mono (fun e w9 ⟨h1, h2⟩ => ⟨h1, below_on hw' h2⟩)
                 | with_reducible exact c1 _ hw'
                 | with_reducible exact c2 _ hw'
                 | with_reducible exact c3 _ hw'
                 | with_reducible exact c4 _ hw'
                 | (have kA' := blk_keep hw' kA
                    have kB' := blk_keep hw' kB
                    have eA0 := blk_cell kA' 0 _ rfl
                    have eA1 := blk_cell kA' 1 _ rfl
                    have eA2 := blk_cell kA' 2 _ rfl
                    have eA3 := blk_cell kA' 3 _ rfl
                    have eB0 := blk_cell kB' 0 _ rfl
                    have eB1 := blk_cell kB' 1 _ rfl
                    have eB2 := blk_cell kB' 2 _ rfl
                    have eB3 := blk_cell kB' 3 _ rfl
                    go_simp
                    first | done | exact rfl | exact ⟨rfl, rfl⟩ | exact c1 _ hw' | exact c2 _ hw' | exact c3 _ hw' | exact c4 _ hw'))
          clear hK K))
  refine wpQuiet_nil ?_
  intro w5 hw5
  go_wp2_with fail
  go_ret
  exact ⟨rfl, below_on b0 hw5⟩
end Go.Proofs.Ytgepflelaemmnaa
