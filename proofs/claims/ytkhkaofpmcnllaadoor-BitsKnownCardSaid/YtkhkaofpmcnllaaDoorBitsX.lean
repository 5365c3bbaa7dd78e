/-
  The walk of 'works' of chapter 7's statements.
-/
import Derived.Test.YtkhkaofpmcnllaaDoorBitsJ
import Derived.Test.YtkhkaofpmcnllaaDoorBitsT
import Derived.Test.YtkhkaofpmcnllaaDoorBase2
namespace Go.Proofs.YtkhkaofpmcnllaaDoor
open Go.RowKit
attribute [local irreducible] pw hasBit withBit woBit mems ofN withI anyN anyAt anyR

theorem ints_lit {w : World} {g : Nat} {t : TypeId} {fr : Nat × Nat} {C : Array Value} (l : List Int) (hl : ∀ c ∈ l, -9223372036854775808 ≤ c ∧ c ≤ 9223372036854775807) (hC : C.toList = intVals l) (hg : w.heap[g]? = some (.cells C t fr)) : IntsAt w (some ⟨g, 0, none⟩) l := by
  refine ⟨hl, .inr ⟨g, 0, rfl, fun i c hi => ?_⟩⟩
  simp only [World.cell?, hg, Nat.zero_add, ← Array.getElem?_toList, hC]
  simp [intVals, hi]
theorem nats_lit {w : World} {g : Nat} {t : TypeId} {fr : Nat × Nat} {C : Array Value} {k : IntKind} {B : Nat} (l : List Nat) (hl : ∀ c ∈ l, c < B) (hC : C.toList = l.map fun (n : Nat) => Value.int k (n : Int)) (hg : w.heap[g]? = some (.cells C t fr)) : NatsAt k B w (some ⟨g, 0, none⟩) l := by
  refine ⟨hl, .inr ⟨g, 0, rfl, fun i hi => ?_⟩⟩
  simp only [World.cell?, hg, Nat.zero_add, ← Array.getElem?_toList, hC]
  simp [hi, List.getD_eq_getElem?_getD]
set_option maxRecDepth 100000 in
set_option maxHeartbeats 1000000 in
theorem works_any (w : World) (ht : TabAt w) : Calls Tryd.prog 16 #[] w fun e w' => e = .returned (.bool true) ∧ Below w.heap.size w w' := by
  go_enter Tryd.func16, Tryd.ntmps16
  go_wp2_with fail
  refine (of_any _ 5 5 [0, 3, 3, 64, -1] _ rfl (by unfold maxLen; omega) (ints_lit [0, 3, 3, 64, -1] (by decide) rfl (heap_new1 w _))).mono ?_
  rintro e w1 ⟨rfl, rfl⟩
  rw [show ((ofN [0, 3, 3, 64, -1] : Nat) : Int) = 9 by rw [show ofN [0, 3, 3, 64, -1] = 9 by decide +kernel]; rfl]
  have hb1 := below1 w (Obj.cells #[Value.int IntKind.i64 0, Value.int IntKind.i64 3, Value.int IntKind.i64 3, Value.int IntKind.i64 64, Value.int IntKind.i64 (-1)] 3)
  go_wp2_with fail
  refine (list_any 9 _ (by decide)).mono ?_
  rintro e w2 ⟨v, rfl, hO, hb2⟩
  rw [show mems 9 64 = [0, 3] by decide +kernel] at hO
  obtain ⟨a2, c2, rfl, hI2⟩ := own_ints (by decide) rfl hO
  have hb2 := below_on hb1 hb2
  clear hO hb1
  go_wp2_with fail
  refine (same_ints a2 _ 2 c2 2 [0, 3] _ rfl (by unfold maxLen; omega) (IntsAt.below (below1 _ _) hI2) (ints_lit [0, 3] (by decide) rfl (heap_new1 w2 _))).mono ?_
  rintro e w3 ⟨rfl, hb3⟩
  have hb3 := below_on hb2 (below_on (below1 w2 _) hb3)
  clear hI2 hb2
  go_wp2_with fail
  refine (count_any 9 _ (by decide)).mono ?_
  rintro e w4 ⟨rfl, rfl⟩
  rw [show (((mems 9 64).length : Nat) : Int) = 2 by rw [show mems 9 64 = [0, 3] by decide +kernel]; rfl]
  go_wp2_with fail
  refine (low_any 8 _ (by decide) (ht.below hb3)).mono ?_
  rintro e w5 ⟨rfl, rfl⟩
  rw [show ((lowN 8 : Nat) : Int) = 3 by rw [show lowN 8 = 3 by decide +kernel]; rfl]
  go_wp2_with fail
  refine (low_any 0 _ (by decide) (ht.below hb3)).mono ?_
  rintro e w6 ⟨rfl, rfl⟩
  rw [show ((lowN 0 : Nat) : Int) = 64 by rw [lowN_zero]; rfl]
  go_wp2_with fail
  refine (bfirst_is 3 3 7 _ (by decide) (by decide +kernel)).mono ?_
  rintro e w7 ⟨rfl, rfl⟩
  go_wp2_with fail
  refine (any_any _ 2 2 2 2 [1, 6] _ rfl (by omega) rfl (nats_lit [1, 6] (by decide) rfl (heap_new1 _ _)) (by decide)).mono ?_
  rintro e w8 ⟨rfl, hb8⟩
  have hb8 := below_on hb3 (below_on (below1 _ _) hb8)
  rw [show ((anyN [1, 6] (mems (2 &&& (pw 2 - 1)) 64) : Nat) : Int) = 6 by rw [show anyN [1, 6] (mems (2 &&& (pw 2 - 1)) 64) = 6 by decide +kernel]; rfl]
  clear hb3
  go_wp2_with fail
  refine (bhas_is true 9 3 _ (by omega) (by decide) (by decide +kernel)).mono ?_
  rintro e w9 ⟨rfl, rfl⟩
  go_wp2_with fail
  refine (bwith_any 9 1 _ (by omega) (by decide)).mono ?_
  rintro e w10 ⟨rfl, rfl⟩
  rw [show ((withBit 9 1 : Nat) : Int) = 11 by rw [show withBit 9 1 = 11 by decide +kernel]; rfl]
  go_wp2_with fail
  refine (bwo_any 9 3 _ (by omega) (by decide)).mono ?_
  rintro e w11 ⟨rfl, rfl⟩
  rw [show ((woBit 9 3 : Nat) : Int) = 1 by rw [show woBit 9 3 = 1 by decide +kernel]; rfl]
  go_wp2_with fail
  go_ret
  exact ⟨rfl, hb8⟩
end Go.Proofs.YtkhkaofpmcnllaaDoor
