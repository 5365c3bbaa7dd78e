/-
  Layer 05: the chapter's small layout, plainly.
-/
import Derived.Test.YtdkcpejlojdijaaToZ
namespace Go.Proofs.Ytdkcpejlojdijaa
open Go.RowKit

def smallL (x1 x2 x3 x4 : Nat) (r : Rt) : Lay := ⟨⟨some ⟨x1, 0, none⟩, 2, [⟨#[97]⟩, ⟨#[98]⟩]⟩, ⟨some ⟨x2, 0, none⟩, 1, [(⟨#[80]⟩, 1)]⟩, ⟨some ⟨x3, 0, none⟩, 1, [(⟨#[71]⟩, 0)]⟩, ⟨some ⟨x4, 0, none⟩, 1, [⟨⟨#[82]⟩, r.sg, r.pa, r.po, r.ov, r.fl⟩]⟩⟩
theorem small_a (x1 x2 x3 x4 c1 c2 : Nat) (a1 a2 : Option Addr) (nm : BA) : checkS (smallL x1 x2 x3 x4 ⟨nm, 0, ⟨a1, c1, [1]⟩, ⟨a2, c2, [(0, false)]⟩, ⟨none, 0, []⟩, ⟨none, 0, []⟩⟩) = (0, 0) := by kernel_rfl
theorem small_b (x1 x2 x3 x4 c1 : Nat) (a1 : Option Addr) (nm : BA) : checkS (smallL x1 x2 x3 x4 ⟨nm, 0, ⟨a1, c1, [0]⟩, ⟨none, 0, []⟩, ⟨none, 0, []⟩, ⟨none, 0, []⟩⟩) = (50, 0) := by kernel_rfl
theorem small_c (x1 x2 x3 x4 c1 : Nat) (a1 : Option Addr) (nm : BA) : checkS (smallL x1 x2 x3 x4 ⟨nm, 0, ⟨a1, c1, [1]⟩, ⟨none, 0, []⟩, ⟨none, 0, []⟩, ⟨none, 0, []⟩⟩) = (50, 0) := by kernel_rfl
theorem small_d (x1 x2 x3 x4 c1 c2 c3 : Nat) (a1 a2 a3 : Option Addr) (nm : BA) : checkS (smallL x1 x2 x3 x4 ⟨nm, 0, ⟨a1, c1, [1]⟩, ⟨a2, c2, [(0, false)]⟩, ⟨none, 0, []⟩, ⟨a3, c3, [(0, true)]⟩⟩) = (50, 0) := by kernel_rfl
end Go.Proofs.Ytdkcpejlojdijaa
