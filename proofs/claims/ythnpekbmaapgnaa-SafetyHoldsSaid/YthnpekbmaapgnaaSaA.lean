/-
 Layer 29: safety.has, inputs.Sides, semaphoreref07.Has; the routes that are shown.
-/
import Derived.Test.YthnpekbmaapgnaaMF
import Derived.Deep.QuietTactic
namespace Go.Proofs.Ythnpekbmaapgnaa
open Go.RowKit
set_option maxRecDepth 100000
attribute [local irreducible] pw hasBit withBit
theorem shas_is (b : Bool) (x n : Nat) (w : World) (hn : n ≤ 63) (hx : x < 18446744073709551616) (hb : hasBit x n = b) :
 Calls Try.prog 20 #[.int .u64 (x : Int), .int .i64 (n : Int)] w fun e w' => e = .returned (.bool b) ∧ w = w' := by
 have h := (has_form x n hx).trans hb
 have h0 : (0 : Int) ≤ n := by omega
 have h1 : min n 64 = n := by omega
 have h2 : ¬ (64 : Int) ≤ n := by omega
 clear hb hx hn
 go_enter Try.func20, Try.ntmps20
 go_wp2_with fail
 go_ret
 exact ⟨by first | rfl | (rw [h]) | (simp only [h]), rfl⟩
theorem sa_sides (o n r : Nat) (a : Option Addr) (len cap : Nat) (w : World) :
 Calls Try.prog 21 #[.agg #[.int .u64 (o : Int), .int .u32 (n : Int), .int .u32 (r : Int), .slice a len cap]] w
  fun e w' => e = .returned (.tuple #[.int .u32 (bits .andNot .u32 n r), .int .u32 (bits .andNot .u32 r n)]) ∧ Below w.heap.size w w' := by
 go_enter Try.func21, Try.ntmps21
 go_wp2
 go_quiet (fail)
 go_wp2
 go_ret2
 exact ⟨rfl, below_drewN (below1 _ _) _⟩
theorem sa_rsides (o n r : Nat) (a : Option Addr) (len cap : Nat) (w : World) :
 Calls Try.prog 38 #[.agg #[.int .u64 (o : Int), .int .u32 (n : Int), .int .u32 (r : Int), .slice a len cap]] w
  fun e w' => e = .returned (.tuple #[.int .u32 (bits .andNot .u32 n r), .int .u32 (bits .andNot .u32 r n)]) ∧ Below w.heap.size w w' := by
 go_enter Try.func38, Try.ntmps38
 go_wp2
 go_quiet (fail)
 go_wp2
 go_ret2
 exact ⟨rfl, below_drewN (below1 _ _) _⟩
theorem box4c {w : World} {g : Nat} {v0 v1 v2 v3 : Value} {t : TypeId} (h : w.heap[g]? = some (.cells #[v0, v1, v2, v3] t)) : w.cell? ⟨g, 0, none⟩ = some v0 ∧ w.cell? ⟨g, 1, none⟩ = some v1 ∧ w.cell? ⟨g, 2, none⟩ = some v2 ∧ w.cell? ⟨g, 3, none⟩ = some v3 :=
 ⟨blk_cell h 0 _ rfl, blk_cell h 1 _ rfl, blk_cell h 2 _ rfl, blk_cell h 3 _ rfl⟩
end Go.Proofs.Ythnpekbmaapgnaa
