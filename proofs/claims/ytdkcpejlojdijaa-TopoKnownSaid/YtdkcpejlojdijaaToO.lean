/-
  Walks: topo.has.
-/
import Derived.Test.YtdkcpejlojdijaaToN
namespace Go.Proofs.Ytdkcpejlojdijaa
open Go.RowKit
attribute [local irreducible] ixF
theorem containsf_has (b : Bool) (gp : Nat) (p : Int × Bool → Bool) (x : Option Addr) (m c : Nat) (l : List (Int × Bool)) (w : World) (hb : l.any p = b) (hn : l.length = m) (hm : m ≤ 9223372036854775807) (hl : RowAt 2 ndC w x l)
    (hp : ∀ W, Below w.heap.size w W → ∀ n, Calls Try.prog 58 #[.agg #[.int .i64 n.1, .bool n.2], .pointer (some ⟨gp, 0, none⟩)] W fun e w' => e = .returned (.bool (p n)) ∧ Below W.heap.size W w') :
    Calls Try.prog 56 #[.slice x m c, .func (.func 58) #[] #[.pointer (some ⟨gp, 0, none⟩)]] w fun e w' => e = .returned (.bool b) ∧ Below w.heap.size w w' := by
  have hc := ixf_has gp p x m c l w hn hm hl hp
  have hi := ixF_iff p l 0
  obtain ⟨z, hz⟩ : ∃ z, ixF p 0 l = z := ⟨_, rfl⟩
  rw [hz, hb] at hi
  rw [hz] at hc
  have HC := Lib.hid hc
  clear hz hb hn hm hl hp hc
  rcases hi with ⟨h1, rfl⟩ | ⟨h1, rfl⟩
  · go_enter Try.func56, Try.ntmps56
    go_wp2_with fail
    refine HC.out.mono ?_
    rintro e w1 ⟨rfl, hb1⟩
    have HB := Lib.hid hb1
    clear hb1
    go_wp2_with fail
    go_ret
    exact ⟨rfl, HB.out⟩
  · have h2 : ¬ 0 ≤ z := by omega
    go_enter Try.func56, Try.ntmps56
    go_wp2_with fail
    refine HC.out.mono ?_
    rintro e w1 ⟨rfl, hb1⟩
    have HB := Lib.hid hb1
    clear hb1
    go_wp2_with fail
    go_ret
    exact ⟨by show Ending.returned (.bool (decide (0 ≤ z))) = _; rw [decide_eq_false (by omega)], HB.out⟩
theorem has_is (b : Bool) (pt : Int) (x : Option Addr) (m c : Nat) (l : List (Int × Bool)) (w : World) (hb : (l.any fun n => decide (n.1 = pt)) = b) (hn : l.length = m) (hm : m ≤ 9223372036854775807) (hl : RowAt 2 ndC w x l) :
    Calls Try.prog 43 #[.slice x m c, .int .i64 pt] w fun e w' => e = .returned (.bool b) ∧ Below w.heap.size w w' := by
  have hB1 := below1 w (.cells #[.int .i64 pt] 3)
  have hg := alloc1 w (.cells #[.int .i64 pt] 3) (Below.refl _ _)
  have HC := Lib.hid (containsf_has b w.heap.size (fun n => decide (n.1 = pt)) x m c l (w.alloc (.cells #[.int .i64 pt] 3)) hb hn hm (hl.below hB1) (fun W hW n => has1_is w.heap.size pt 3 (0, 0) n W (blk_keep hW hg)))
  have HB := Lib.hid hB1
  clear hb hn hm hl hB1 hg
  go_enter Try.func43, Try.ntmps43
  go_wp2_with fail
  refine HC.out.mono ?_
  rintro e w1 ⟨rfl, hb1⟩
  have HB1 := Lib.hid (below_on HB.out hb1)
  clear hb1
  go_wp2_with fail
  go_ret
  exact ⟨rfl, HB1.out⟩
end Go.Proofs.Ytdkcpejlojdijaa
