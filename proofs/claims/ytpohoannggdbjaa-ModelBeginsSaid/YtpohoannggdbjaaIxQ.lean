/-
 Layer 10: loads of a whole state in drawn regions.
-/
import Derived.Test.YtpohoannggdbjaaIxJ
namespace Go.Proofs.Ytpohoannggdbjaa
open Go.RowKit
set_option maxRecDepth 100000
theorem quiet_load_is {P : Program} {C : World → Prop} {o : Oper} {a : Act} {K : Act → Prop} (ty : TypeId) (x : Operand) (ho : o.op = .load ty x) (vx v : Value) (hx : a.eval x = vx) (hr : ∀ w, C w → (Instr.loadAt ty vx).run P w = .ok v w) (h : K (a.put o.dst v)) : o.quiet P a C K :=
 ⟨v, fun w hw => by unfold Oper.quietAt execOp; simp only [ho, hx, Sem.run_bind, hr w hw, Result.andThen_ok, Sem.run_pure]; exact ⟨rfl, rfl⟩, h⟩
theorem rel_load_is {P : Program} {w : World} {F : Value → World → Prop} {r : Operand → Value} {o : Oper} (ty : TypeId) (x : Operand) (ho : o.op = .load ty x) (vx v : Value) (hx : r x = vx) (hr : (Instr.loadAt ty vx).run P w = .ok v w) (h : F v w) : relUpon P w F ((execOp r o).run P w) := by
 unfold execOp; simp only [ho, hx, Sem.run_bind, hr, Result.andThen_ok, Sem.run_pure]; exact ⟨Below.refl _ _, h⟩
end Go.Proofs.Ytpohoannggdbjaa
