/-
  Worlds in which one block alone is written, and new blocks are made; no program in sight.
-/
import Derived.Test.YtdkcpejlojdijaaBase
namespace Go.Proofs.Ytdkcpejlojdijaa
open Go.RowKit

/-- w' is w with new blocks, and block g written -/
structure Only (g : Nat) (w w' : World) : Prop where
  os : w'.os = w.os
  tape : w'.tape = w.tape
  output : w'.output = w.output
  size : w.heap.size ≤ w'.heap.size
  block : ∀ k, k < w.heap.size → k ≠ g → w'.heap[k]? = w.heap[k]?
theorem Only.refl (g : Nat) (w : World) : Only g w w := ⟨rfl, rfl, rfl, Nat.le_refl _, fun _ _ _ => rfl⟩
theorem Only.trans {g : Nat} {a b c : World} (h : Only g a b) (k : Only g b c) : Only g a c :=
  ⟨k.os.trans h.os, k.tape.trans h.tape, k.output.trans h.output, Nat.le_trans h.size k.size, fun i hi hg => (k.block i (Nat.lt_of_lt_of_le hi h.size) hg).trans (h.block i hi hg)⟩
theorem Only.of_below {g : Nat} {w w' : World} (h : Below w.heap.size w w') : Only g w w' := ⟨h.os, h.tape, h.output, h.size, fun k hk _ => h.block k hk⟩
theorem Only.drew {g : Nat} {a w : World} (h : Only g a w) : Only g a w.drew := ⟨h.os, h.tape, h.output, h.size, h.block⟩
theorem Only.drewN {g : Nat} {a w : World} (h : Only g a w) (n : Nat) : Only g a (w.drewN n) := ⟨h.os, h.tape, h.output, h.size, h.block⟩
theorem Only.alloc {g : Nat} {a w : World} (h : Only g a w) (o : Obj) : Only g a (w.alloc o) := h.trans (Only.of_below (below1 w o))
theorem Only.setCell {g : Nat} {a w : World} (h : Only g a w) {p : Addr} (hp : p.block = g) (u : Value) : Only g a (w.setCell p u) :=
  h.trans ⟨((Below.refl 0 w).setCell (p := p) (Nat.zero_le _) u).os, ((Below.refl 0 w).setCell (p := p) (Nat.zero_le _) u).tape, ((Below.refl 0 w).setCell (p := p) (Nat.zero_le _) u).output,
    ((Below.refl 0 w).setCell (p := p) (Nat.zero_le _) u).size, fun k _ hk => Below.heap_setCell w p u k (by rw [hp]; exact hk)⟩
theorem Only.below {g B : Nat} {a w w' : World} (h : Below B a w) (hB : B ≤ g) (hs : B ≤ w.heap.size) (k : Only g w w') : Below B a w' :=
  ⟨k.os.trans h.os, k.tape.trans h.tape, k.output.trans h.output, Nat.le_trans h.size k.size, fun i hi => (k.block i (Nat.lt_of_lt_of_le hi hs) (by omega)).trans (h.block i hi)⟩
theorem Only.keep {g k : Nat} {w w' : World} {o : Obj} (h : Only g w w') (hk : k ≠ g) (hb : w.heap[k]? = some o) : w'.heap[k]? = some o := by
  rw [h.block k (Array.getElem?_eq_some_iff.1 hb).1 hk, hb]
theorem blk_lt {w : World} {g : Nat} {o : Obj} (h : w.heap[g]? = some o) : g < w.heap.size := (Array.getElem?_eq_some_iff.1 h).1
theorem blk_set {w : World} {g : Nat} {cs : Array Value} {t : TypeId} {fr : Nat × Nat} (h : w.heap[g]? = some (.cells cs t fr)) (i : Nat) (v : Value) : (w.setCell ⟨g, i, none⟩ v).heap[g]? = some (.cells (cs.setIfInBounds i v) t fr) := by
  show (w.heap.modify g _)[g]? = _
  rw [Array.getElem?_modify, if_pos rfl, h]; rfl
theorem blk_set_other {w : World} {g k : Nat} {o : Obj} (h : w.heap[g]? = some o) (i : Nat) (v : Value) (hk : k ≠ g) : (w.setCell ⟨k, i, none⟩ v).heap[g]? = some o := by
  rw [Below.heap_setCell _ _ _ _ (fun e => hk e.symm)]; exact h
end Go.Proofs.Ytdkcpejlojdijaa
