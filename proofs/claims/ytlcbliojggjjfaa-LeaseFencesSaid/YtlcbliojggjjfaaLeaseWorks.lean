/-
  The walk of 'works' of chapter 23's statements.
-/
import Derived.Test.YtlcbliojggjjfaaObj
import Derived.Test.YtlcbliojggjjfaaLeaseTake
import Derived.Test.YtlcbliojggjjfaaLeaseAsk
import Derived.Test.YtlcbliojggjjfaaLeaseRAsk
import Derived.Test.YtlcbliojggjjfaaLeaseRenew
import Derived.Test.YtlcbliojggjjfaaLeaseRRenew
import Derived.Test.YtlcbliojggjjfaaLeaseGive
import Derived.Test.YtlcbliojggjjfaaLeaseRGive
namespace Go.Proofs.Ytlcbliojggjjfaa
open Go.RowKit
attribute [local irreducible] inB inL rightB okB ofR askR renewR giveR askedR
theorem ask_is (e h u ge gu er E H U p t : Int) (w : World) (hH1 : -9223372036854775808 ≤ H) (hH2 : H ≤ 9223372036854775807) (hR : askR E H U p t = ⟨e, h, u, ge, gu, er⟩) :
    Calls Try.prog 7 #[.agg #[.int .i64 E, .int .i64 H, .int .i64 U], .int .i64 p, .int .i64 t] w fun x w' => x = .returned (.tuple #[.agg #[.int .i64 e, .int .i64 h, .int .i64 u], .agg #[.int .i64 ge, .int .i64 gu], .int .i64 er]) ∧ Below w.heap.size w w' :=
  (ask_any E H U p t w hH1 hH2).mono fun x w' ⟨h1, h2⟩ => by rw [hR] at h1; exact ⟨h1, h2⟩
theorem rask_is (e h u ge gu er E H U p t : Int) (w : World) (hH1 : -9223372036854775808 ≤ H) (hH2 : H ≤ 9223372036854775807) (hR : askR E H U p t = ⟨e, h, u, ge, gu, er⟩) :
    Calls Try.prog 9 #[.agg #[.int .i64 E, .int .i64 H, .int .i64 U], .int .i64 p, .int .i64 t] w fun x w' => x = .returned (.tuple #[.agg #[.int .i64 e, .int .i64 h, .int .i64 u], .int .i64 ge, .int .i64 gu, .int .i64 er]) ∧ Below w.heap.size w w' :=
  (rask_any E H U p t w hH1 hH2).mono fun x w' ⟨h1, h2⟩ => by rw [hR] at h1; exact ⟨h1, h2⟩
theorem renew_is (e h u ge gu er E H U p n t : Int) (w : World) (hH1 : -9223372036854775808 ≤ H) (hH2 : H ≤ 9223372036854775807) (hR : renewR E H U p n t = ⟨e, h, u, ge, gu, er⟩) :
    Calls Try.prog 13 #[.agg #[.int .i64 E, .int .i64 H, .int .i64 U], .int .i64 p, .int .i64 n, .int .i64 t] w fun x w' => x = .returned (.tuple #[.agg #[.int .i64 e, .int .i64 h, .int .i64 u], .agg #[.int .i64 ge, .int .i64 gu], .int .i64 er]) ∧ Below w.heap.size w w' :=
  (renew_any E H U p n t w hH1 hH2).mono fun x w' ⟨h1, h2⟩ => by rw [hR] at h1; exact ⟨h1, h2⟩
theorem rrenew_is (e h u ge gu er E H U p n t : Int) (w : World)  (hR : renewR E H U p n t = ⟨e, h, u, ge, gu, er⟩) :
    Calls Try.prog 14 #[.agg #[.int .i64 E, .int .i64 H, .int .i64 U], .int .i64 p, .int .i64 n, .int .i64 t] w fun x w' => x = .returned (.tuple #[.agg #[.int .i64 e, .int .i64 h, .int .i64 u], .int .i64 ge, .int .i64 gu, .int .i64 er]) ∧ Below w.heap.size w w' :=
  (rrenew_any E H U p n t w).mono fun x w' ⟨h1, h2⟩ => by rw [hR] at h1; exact ⟨h1, h2⟩
theorem give_is (e h u ge gu er E H U p n : Int) (w : World) (hH1 : -9223372036854775808 ≤ H) (hH2 : H ≤ 9223372036854775807) (hR : giveR E H U p n = ⟨e, h, u, ge, gu, er⟩) :
    Calls Try.prog 15 #[.agg #[.int .i64 E, .int .i64 H, .int .i64 U], .int .i64 p, .int .i64 n] w fun x w' => x = .returned (.tuple #[.agg #[.int .i64 e, .int .i64 h, .int .i64 u], .int .i64 er]) ∧ Below w.heap.size w w' :=
  (give_any E H U p n w hH1 hH2).mono fun x w' ⟨h1, h2⟩ => by rw [hR] at h1; exact ⟨h1, h2⟩
theorem rgive_is (e h u ge gu er E H U p n : Int) (w : World)  (hR : giveR E H U p n = ⟨e, h, u, ge, gu, er⟩) :
    Calls Try.prog 16 #[.agg #[.int .i64 E, .int .i64 H, .int .i64 U], .int .i64 p, .int .i64 n] w fun x w' => x = .returned (.tuple #[.agg #[.int .i64 e, .int .i64 h, .int .i64 u], .int .i64 er]) ∧ Below w.heap.size w w' :=
  (rgive_any E H U p n w).mono fun x w' ⟨h1, h2⟩ => by rw [hR] at h1; exact ⟨h1, h2⟩
theorem take_is (x y er p ge gu a b : Int) (w : World) (hR : takeR ge gu a b = ⟨x, y, er⟩) :
    Calls Try.prog 19 #[.agg #[.int .i64 p, .int .i64 ge, .int .i64 gu], .agg #[.int .i64 a, .int .i64 b]] w
      fun e w' => e = .returned (.tuple #[.agg #[.int .i64 p, .int .i64 x, .int .i64 y], .int .i64 er]) ∧ Below w.heap.size w w' :=
  (take_any p ge gu a b w).mono fun e w' ⟨h1, h2⟩ => by rw [hR] at h1; exact ⟨h1, h2⟩
theorem holds_is (B : Bool) (p ge gu t : Int) (w : World) (hB : holdsB ge gu t = B) (h : -9223372036854775806 ≤ gu) (h2 : gu ≤ 9223372036854775807) :
    Calls Try.prog 18 #[.agg #[.int .i64 p, .int .i64 ge, .int .i64 gu], .int .i64 t] w fun e w' => e = .returned (.bool B) ∧ Below w.heap.size w w' := hB ▸ holds_any p ge gu t w h h2
theorem heap_new' (w : World) (o : Obj) : (w.alloc o).heap[w.heap.size]? = some o := alloc1 w o (Below.refl _ _)

set_option maxRecDepth 100000 in
set_option maxHeartbeats 2000000 in
theorem works_any (w : World) : Calls Try.prog 12 #[] w fun e w' => e = .returned (.bool true) ∧ Below w.heap.size w w' := by
  have q1 : Hid (askR 0 (-1) 0 0 5 = ⟨1, 0, 13, 1, 13, 0⟩) := Lib.hid (by decide +kernel)
  have q2 : Hid (askR 1 0 13 1 13 = ⟨1, 0, 13, 0, 0, 231⟩) := Lib.hid (by decide +kernel)
  have q3 : Hid (askR 1 0 13 1 14 = ⟨2, 1, 22, 2, 22, 0⟩) := Lib.hid (by decide +kernel)
  have q4 : Hid (renewR 2 1 22 0 1 14 = ⟨2, 1, 22, 0, 0, 230⟩) := Lib.hid (by decide +kernel)
  have q5 : Hid (takeR 0 0 1 13 = ⟨1, 13, 0⟩) := Lib.hid (by kernel_rfl)
  have q6 : Hid (holdsB 1 13 11 = true) := Lib.hid (by decide +kernel)
  have q7 : Hid (holdsB 1 13 12 = false) := Lib.hid (by decide +kernel)
  go_enter Try.func12, Try.ntmps12
  go_wp2_with fail
  refine (new_any _).mono ?_
  rintro e w1 ⟨rfl, hb1⟩
  go_wp2_with fail
  refine (ask_is 1 0 13 1 13 0 0 (-1) 0 0 5 _ (by omega) (by omega) q1.out).mono ?_
  rintro e w2 ⟨rfl, hb2⟩
  have b2 := below_on hb1 hb2
  have kB3 := (alloc2' w2 (Obj.cells #[Value.int IntKind.i64 1, Value.int IntKind.i64 0, Value.int IntKind.i64 13] 23) (Obj.cells #[Value.int IntKind.i64 1, Value.int IntKind.i64 13] 25)).1
  have kG3 := (alloc2' w2 (Obj.cells #[Value.int IntKind.i64 1, Value.int IntKind.i64 0, Value.int IntKind.i64 13] 23) (Obj.cells #[Value.int IntKind.i64 1, Value.int IntKind.i64 13] 25)).2
  have b3 := below_on b2 (below2' w2 (Obj.cells #[Value.int IntKind.i64 1, Value.int IntKind.i64 0, Value.int IntKind.i64 13] 23) (Obj.cells #[Value.int IntKind.i64 1, Value.int IntKind.i64 13] 25))
  clear hb1 hb2 b2
  go_wp2_with fail
  refine (ask_is 1 0 13 0 0 231 1 0 13 1 13 _ (by omega) (by omega) q2.out).mono ?_
  rintro e w4 ⟨rfl, hb4⟩
  have kB4 := blk_keep hb4 kB3
  have kG4 := blk_keep hb4 kG3
  have b4 := below_on b3 hb4
  have xB := blk_lt kB4
  have eB0 := blk_cell kB4 0 _ rfl
  have eB1 := blk_cell kB4 1 _ rfl
  have eB2 := blk_cell kB4 2 _ rfl
  have n4 := below2' w4 (Obj.cells #[Value.int IntKind.i64 1, Value.int IntKind.i64 0, Value.int IntKind.i64 13] 23) (Obj.cells #[Value.int IntKind.i64 0, Value.int IntKind.i64 0] 25)
  have kB5 := blk_keep n4 kB4
  have kG5 := blk_keep n4 kG4
  have b5 := below_on b4 n4
  clear kB3 kG3 b3 hb4 n4
  go_wp2_with fail
  refine (ask_is 2 1 22 2 22 0 1 0 13 1 14 _ (by omega) (by omega) q3.out).mono ?_
  rintro e w6 ⟨rfl, hb6⟩
  have kG6 := blk_keep hb6 kG5
  have b6 := below_on b5 hb6
  clear eB0 eB1 eB2
  clear xB kB4 kG4 kB5 b4
  have n6 := below2' w6 (Obj.cells #[Value.int IntKind.i64 2, Value.int IntKind.i64 1, Value.int IntKind.i64 22] 23) (Obj.cells #[Value.int IntKind.i64 2, Value.int IntKind.i64 22] 25)
  have kC7 := (alloc2' w6 (Obj.cells #[Value.int IntKind.i64 2, Value.int IntKind.i64 1, Value.int IntKind.i64 22] 23) (Obj.cells #[Value.int IntKind.i64 2, Value.int IntKind.i64 22] 25)).1
  have kH7 := (alloc2' w6 (Obj.cells #[Value.int IntKind.i64 2, Value.int IntKind.i64 1, Value.int IntKind.i64 22] 23) (Obj.cells #[Value.int IntKind.i64 2, Value.int IntKind.i64 22] 25)).2
  have kG7 := blk_keep n6 kG6
  have b7 := below_on b6 n6
  clear n6 hb6 b5 kG5
  go_wp2_with fail
  refine (renew_is 2 1 22 0 0 230 2 1 22 0 1 14 _ (by omega) (by omega) q4.out).mono ?_
  rintro e w8 ⟨rfl, hb8⟩
  have kG8 := blk_keep hb8 kG7
  have kH8 := blk_keep hb8 kH7
  have b8 := below_on b7 hb8
  have xG := blk_lt kG8
  have xG2 : w2.heap.size < w8.heap.size := by omega
  have eG0 := blk_cell kG8 0 _ rfl
  have eG1 := blk_cell kG8 1 _ rfl
  have n8 := below2' w8 (Obj.cells #[Value.int IntKind.i64 2, Value.int IntKind.i64 1, Value.int IntKind.i64 22] 23) (Obj.cells #[Value.int IntKind.i64 0, Value.int IntKind.i64 0] 25)
  have kG9 := blk_keep n8 kG8
  have kH9 := blk_keep n8 kH8
  have b9 := below_on b8 n8
  clear n8 hb8 b7 kC7 kG6 kG7 kH7
  go_wp2_with fail
  refine (take_is 1 13 0 0 0 0 1 13 _ q5.out).mono ?_
  rintro e w10 ⟨rfl, hb10⟩
  have kG10 := blk_keep hb10 kG9
  have kH10 := blk_keep hb10 kH9
  have b10 := below_on b9 hb10
  clear eG0 eG1
  clear xG kG8 kH8 b8
  have n10 := below1 w10 (Obj.cells #[Value.int IntKind.i64 0, Value.int IntKind.i64 1, Value.int IntKind.i64 13] 46)
  have kT11 := heap_new' w10 (Obj.cells #[Value.int IntKind.i64 0, Value.int IntKind.i64 1, Value.int IntKind.i64 13] 46)
  have kG11 := blk_keep n10 kG10
  have kH11 := blk_keep n10 kH10
  have b11 := below_on b10 n10
  have xG := blk_lt kG10
  have xH := blk_lt kH10
  have eG0 := blk_cell kG10 0 _ rfl
  have eG1 := blk_cell kG10 1 _ rfl
  have eH0 := blk_cell kH10 0 _ rfl
  have eH1 := blk_cell kH10 1 _ rfl
  go_wp2_with fail
  refine (holds_is true 0 1 13 11 _ q6.out (by omega) (by omega)).mono ?_
  rintro e w12 ⟨rfl, hb12⟩
  have kT12 := blk_keep hb12 kT11
  have b12 := below_on b11 hb12
  clear eG0 eG1
  clear eH0 eH1
  clear xG xH
  have eT0 := blk_cell kT12 0 _ rfl
  have eT1 := blk_cell kT12 1 _ rfl
  have eT2 := blk_cell kT12 2 _ rfl
  go_wp2_with fail
  refine (holds_is false 0 1 13 12 _ q7.out (by omega) (by omega)).mono ?_
  rintro e w13 ⟨rfl, hb13⟩
  go_wp2_with fail
  go_ret
  exact ⟨rfl, below_on b12 hb13⟩
end Go.Proofs.Ytlcbliojggjjfaa
