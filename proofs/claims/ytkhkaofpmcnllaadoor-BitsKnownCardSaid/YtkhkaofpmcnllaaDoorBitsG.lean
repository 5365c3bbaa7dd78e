/-
  What the condition on the program's table gives the walks: the table lies in its place; a start that meets the condition.
-/
import Derived.Test.YtkhkaofpmcnllaaDoorRows
import Derived.Test.YtkhkaofpmcnllaaDoorBitsT
import Derived.ProofKit
import Derived.LaidMore
import Derived.OpenShut
import Derived.Stop.Joined
namespace Go.Proofs.YtkhkaofpmcnllaaDoor
open Go.ChangeShapes Go.WideShapes Go.ChangeAt Go.WideMaps Go.WideElems Go.RowKit

theorem gTab : Tryd.prog.globalNamed "math/bits.deBruijn64tab" = some 0 := by kernel_rfl
theorem tTab : (Tryd.prog.globals[0]?).map (·.type) = some 44 := by kernel_rfl
theorem tab_data {H : Type} : (Rows.laid_math_bits_deBruijn64tab : DataW H) = .agg (tab.map fun (n : Nat) => DataW.lit (.int .u8 (n : Int))) := rfl
theorem cell_of_take {cs : List Value} {i : Nat} {v : Value} (h : (cs.drop i).take 1 = [v]) : cs[i]? = some v := by
  have : (List.take 1 (List.drop i cs))[0]? = some v := by rw [h]; rfl
  rw [List.getElem?_take] at this
  simpa using this
theorem of_laid {W : World} (h : laidMetH Tryd.prog Rows.bitsOneRow.laid W) : TabAt W := by
  rw [MakeChecks.laidMetH_plain _ _ _ (by kernel_rfl)] at h
  obtain ⟨ps, ⟨g0, t0, cs0, f0, p0, q0, hg0, ht0, hv0, hd0, _, _⟩, _, _⟩ := h
  obtain rfl := Option.some.inj (gTab.symm.trans hg0)
  obtain rfl := Option.some.inj (tTab.symm.trans ht0)
  rw [tab_data] at hd0
  obtain ⟨xs, m1, rfl, hx1, hlen, hn3, hel⟩ := DataW.trod_array Tryd.underlying44 hd0
  have c5 : Tryd.prog.cellsOf 5 = 1 := by kernel_rfl
  intro i hi
  have h0 := hel i hi
  rw [c5, Nat.mul_one] at h0
  simp only [Prod.mk.injEq, DataW.agg.injEq] at hx1
  have hxi : xs[i]? = some (xs[i]'(by omega)) := List.getElem?_eq_getElem (by omega)
  rw [hxi] at h0
  obtain ⟨n, e1, e2, _⟩ := DataW.trod_int Tryd.underlying5 h0
  have h1 : (xs.map (·.1))[i]? = some (DataW.lit (.int .u8 n)) := by rw [List.getElem?_map, hxi, e2]; rfl
  have h64 : tab.length = 64 := by decide
  have h2 : (tab.map fun (n : Nat) => (DataW.lit (.int .u8 (n : Int)) : DataW Unit))[i]? = some (DataW.lit (.int .u8 ((tab.getD i 0 : Nat) : Int))) := by
    rw [List.getElem?_map, List.getD_eq_getElem?_getD, List.getElem?_eq_getElem (by omega)]; rfl
  rw [hx1.1, h1] at h2
  have hn : n = ((tab.getD i 0 : Nat) : Int) := by simpa using h2
  have h3 := cell_of_take e1
  rw [World.var?_cell hg0 hv0 i, ← Array.getElem?_toList, h3, hn]
theorem door_met (os : Os) (args : Array Value) : laidMetH Tryd.prog Rows.bitsOneRow.laid ((World.doorLaid Tryd.prog 14 os).forCall (fun _ _ => 0) ⟨#[], args, []⟩).memory :=
  laidMetH_of_parts3 (fuel := 8) (laidMet_of_run' 8 (by kernel_rfl) (by kernel_rfl)) (by kernel_rfl) (by kernel_rfl)
end Go.Proofs.YtkhkaofpmcnllaaDoor
