/-
  SwitchoverFences: any arguments.
-/
import Derived.Test.YtoedipajcmmhjaaSwI
namespace Go.Proofs.Ytoedipajcmmhjaa
open Go.RowKit
theorem walk_SwitchoverFences (a0 : Option Addr) (len0 cap0 : Nat) (a1 a2 : Int) (w : World) (w0 : Rd Try.prog w 22 [.slice a0 len0 cap0]) (w1 : (Lit.int .u8 a1).wf = true) (w2 : (Lit.int .u8 a2).wf = true) :
    Calls Try.prog 3 #[.slice a0 len0 cap0, .int .u8 a1, .int .u8 a2] w fun e w' => e = .returned (.bool true) ∧ Below w.heap.size w w' := by
  obtain ⟨a, rfl, ha⟩ := u8_nat w1
  obtain ⟨b, rfl, hb⟩ := u8_nat w2
  obtain ⟨l, h1, h2, h3⟩ := stps_of w0
  exact fences_any a0 len0 cap0 l a b w ha hb h1 h2 h3
end Go.Proofs.Ytoedipajcmmhjaa
