/-
  The walk of the statement ExecPlays of chapter 19.
-/
import Derived.Test.YtaonkcfmlgaobaaExecDoes
namespace Go.Proofs.Ytaonkcfmlgaobaa
open Go.RowKit
attribute [local irreducible] ESt.tick ESt.done ESt.reset ESt.left ESt.pick badB

theorem ints_lit {w : World} {b : Nat} {t : TypeId} {fr : Nat × Nat} {C : Array Value} (l : List Int) (hC : C.toList = l.map (Value.int .i64)) (hb : w.heap[b]? = some (.cells C t fr)) : IntsAt w (some ⟨b, 0, none⟩) l := by
  refine .inr ⟨b, 0, rfl, fun i x hx => ?_⟩
  simp only [World.cell?, hb, ← Array.getElem?_toList, hC, List.getElem?_map, hx, Nat.zero_add]
  rfl
set_option maxRecDepth 100000 in
set_option maxHeartbeats 2000000 in
theorem works_any (w : World) : Calls Try.prog 6 #[] w fun e w' => e = .returned (.bool true) ∧ Below w.heap.size w w' := by
  have q0 : Hid (badB 3 2 7 = false) := Lib.hid (by decide +kernel)
  have q1 : Hid (ESt.done ⟨3, 2, 7, 0, 0, false⟩ 1 = (⟨3, 2, 7, 0, 0, false⟩, 4)) := Lib.hid (by kernel_rfl)
  have q2 : Hid (ESt.pick ⟨3, 2, 7, 0, 0, false⟩ 0 [0, 2, 1, 1, 2] = (⟨3, 2, 8, 0, 0, false⟩, 3, 0)) := Lib.hid (by kernel_rfl)
  have q3 : Hid (ESt.tick ⟨3, 2, 8, 0, 0, false⟩ = (⟨3, 2, 8, 0, 1, false⟩, 0)) := Lib.hid (by kernel_rfl)
  have q4 : Hid (ESt.tick ⟨3, 2, 8, 0, 1, false⟩ = (⟨3, 2, 8, 0, 2, false⟩, 0)) := Lib.hid (by kernel_rfl)
  have q5 : Hid (ESt.tick ⟨3, 2, 8, 0, 2, false⟩ = (⟨3, 2, 8, 0, 2, true⟩, 190)) := Lib.hid (by kernel_rfl)
  have q6 : Hid (ESt.done ⟨3, 2, 8, 0, 2, true⟩ 0 = (⟨3, 2, 8, 0, 2, true⟩, 190)) := Lib.hid (by kernel_rfl)
  have q7 : Hid (ESt.reset ⟨3, 2, 8, 0, 2, true⟩ = (⟨3, 2, 8, 0, 0, false⟩, 0)) := Lib.hid (by kernel_rfl)
  have q8 : Hid (ESt.left ⟨3, 2, 8, 0, 0, false⟩ = 2) := Lib.hid (by kernel_rfl)
  have i0 := einv_new q0.out
  have i2 : EInv ⟨3, 2, 8, 0, 0, false⟩ := by have := EInv.pick [0, 2, 1, 1, 2] _ 0 i0; rw [q2.out] at this; exact this
  have i3 : EInv ⟨3, 2, 8, 0, 1, false⟩ := by have := i2.tick; rw [q3.out] at this; exact this
  have i4 : EInv ⟨3, 2, 8, 0, 2, false⟩ := by have := i3.tick; rw [q4.out] at this; exact this
  have i5 : EInv ⟨3, 2, 8, 0, 2, true⟩ := by have := i4.tick; rw [q5.out] at this; exact this
  go_enter Try.func6, Try.ntmps6
  go_wp2_with fail
  refine (new_ok 3 2 7 _ q0.out).mono ?_
  rintro e w1 ⟨rfl, hx1, hb1⟩
  have hg := hx1.lt
  obtain ⟨g, hgd⟩ : ∃ g, g = w.heap.size := ⟨_, rfl⟩
  rw [← hgd] at hx1 hg ⊢
  have hge : w.heap.size ≤ g := by omega
  clear hgd
  go_wp2_with fail
  refine (done_is _ _ _ 1 g _ q1.out hx1 i0).mono ?_
  rintro e w2 ⟨rfl, hx2, ho2⟩
  have b2 := Only.below hb1 hge hb1.size ho2
  go_wp2_with fail
  have kP := alloc1 w2 (Obj.cells #[Value.int IntKind.i64 0, Value.int IntKind.i64 2, Value.int IntKind.i64 1, Value.int IntKind.i64 1, Value.int IntKind.i64 2] 3) (Below.refl _ _)
  have b3 := below_on b2 (below1 w2 (Obj.cells #[Value.int IntKind.i64 0, Value.int IntKind.i64 2, Value.int IntKind.i64 1, Value.int IntKind.i64 1, Value.int IntKind.i64 2] 3))
  have hx3 := hx2.below (below1 w2 (Obj.cells #[Value.int IntKind.i64 0, Value.int IntKind.i64 2, Value.int IntKind.i64 1, Value.int IntKind.i64 1, Value.int IntKind.i64 2] 3))
  have hg2 := hx2.lt
  refine (pick_is _ _ 3 0 _ 5 _ [0, 2, 1, 1, 2] g _ q2.out rfl (by omega) (ints_lit [0, 2, 1, 1, 2] rfl kP) (by intro x hx _; cases hx; dsimp only; omega) hx3 i0).mono ?_
  rintro e w4 ⟨rfl, hx4, ho4⟩
  have b4 := Only.below b3 hge b3.size ho4
  clear kP hx3 hx2 hx1
  go_wp2_with fail
  refine (tick_is _ _ _ g _ q3.out hx4 i2).mono ?_
  rintro e w5 ⟨rfl, hx5, ho5⟩
  have b5 := Only.below b4 hge b4.size ho5
  go_wp2_with fail
  refine (tick_is _ _ _ g _ q4.out hx5 i3).mono ?_
  rintro e w6 ⟨rfl, hx6, ho6⟩
  have b6 := Only.below b5 hge b5.size ho6
  go_wp2_with fail
  refine (tick_is _ _ _ g _ q5.out hx6 i4).mono ?_
  rintro e w7 ⟨rfl, hx7, ho7⟩
  have b7 := Only.below b6 hge b6.size ho7
  go_wp2_with fail
  refine (done_is _ _ _ 0 g _ q6.out hx7 i5).mono ?_
  rintro e w8 ⟨rfl, hx8, ho8⟩
  have b8 := Only.below b7 hge b7.size ho8
  go_wp2_with fail
  refine (cycle_any _ g _ hx8).mono ?_
  rintro e w' ⟨rfl, rfl⟩
  go_wp2_with fail
  refine (late_any _ g _ hx8).mono ?_
  rintro e w' ⟨rfl, rfl⟩
  go_wp2_with fail
  refine (reset_is _ _ _ g _ q7.out hx8).mono ?_
  rintro e w9 ⟨rfl, hx9, ho9⟩
  have b9 := Only.below b8 hge b8.size ho9
  go_wp2_with fail
  refine (left_any _ g _ hx9 i2).mono ?_
  rintro e w10 ⟨rfl, hb10⟩
  rw [q8.out]
  go_wp2_with fail
  go_ret
  exact ⟨rfl, below_on b9 hb10⟩

set_option maxRecDepth 100000 in
set_option maxHeartbeats 4000000 in
theorem plays_any (a b c : Int) (x : Option Addr) (n cap : Nat) (l : List Cl) (w : World) (hn : l.length = n) (hm : n ≤ maxLen) (hl : ClsAt w x l) :
    Calls Try.prog 3 #[.int .i64 a, .int .i64 b, .int .i64 c, .slice x n cap] w fun e w' => e = .returned (.bool true) ∧ Below w.heap.size w w' := by
  have HN := Lib.hid hn
  clear hn
  have hf := few_any x n cap l w HN.out hm hl
  go_enter Try.func3, Try.ntmps3
  go_wp2_with fail
  refine hf.mono ?_
  rintro e w' ⟨B, rfl, hB, rfl⟩
  cases B with
  | false =>
    go_wp2_with fail
    refine (works_any _).mono ?_
    rintro e w3 ⟨rfl, hb3⟩
    go_wp2_with fail
    go_ret
    exact ⟨rfl, hb3⟩
  | true =>
  obtain ⟨hl300, hpicks⟩ := hB rfl
  have hn300 : n ≤ 300 := by rw [← HN.out]; exact hl300
  have HPK := Lib.hid hpicks
  clear hB hf hl300 hpicks
  cases hbad : badB a b c with
  | true =>
    have HB := Lib.hid hbad
    clear hbad
    go_wp2_with fail
    refine (new_bad a b c _ HB.out).mono ?_
    rintro e w' ⟨rfl, rfl⟩
    go_wp2_with fail
    refine (rnew_bad a b c _ HB.out).mono ?_
    rintro e w' ⟨rfl, rfl⟩
    go_wp2_with fail
    refine (works_any _).mono ?_
    rintro e w3 ⟨rfl, hb3⟩
    go_wp2_with fail
    go_ret
    exact ⟨rfl, hb3⟩
  | false =>
    have HB := Lib.hid hbad
    have hi0 := einv_new hbad
    clear hbad
    go_wp2_with fail
    refine (new_ok a b c _ HB.out).mono ?_
    rintro e w1 ⟨rfl, hx1, hb1⟩
    have hgl := hx1.lt
    obtain ⟨g, hgd⟩ : ∃ g, g = w.heap.size := ⟨_, rfl⟩
    rw [← hgd] at hx1 hgl ⊢
    have hge : w.heap.size ≤ g := by omega
    clear hgd
    go_wp2_with fail
    refine (rnew_ok a b c _ HB.out).mono ?_
    rintro e w2 ⟨rfl, hr2, hb2⟩
    have hx2 := hx1.below hb2
    have b2 := below_on hb1 hb2
    obtain ⟨h, hhd⟩ : ∃ h, h = w1.heap.size := ⟨_, rfl⟩
    rw [← hhd] at hr2 ⊢
    have hhe : w.heap.size ≤ h := by have := hb1.size; omega
    clear hhd hx1 hgl hb1 hb2
    go_wp2_with fail
    refine (same_any _ g h _ hx2 hr2 hi0).mono ?_
    rintro e w3 ⟨rfl, hb3⟩
    have hx3 := hx2.below hb3
    have hr3 := hr2.below hb3
    have b3 := below_on b2 hb3
    clear hx2 hr2 b2 hb3
    go_wp2_with fail
    go_loopw [12] (fun i wr => ∃ (k : Nat) (s : ESt), k ≤ n ∧ i = .int .i64 k ∧ ExAt wr g s ∧ RxAt wr h s ∧ EInv s ∧ Below w.heap.size w wr) (fun i _ => n - (intOf i).toNat)
    case atStart => exact ⟨0, _, by omega, rfl, hx3, hr3, hi0, b3⟩
    case round =>
      obtain ⟨k, s, hk, rfl, hx, hr, hi, hB⟩ := hrel
      clear hx3 hr3 b3
      by_cases hlt : k < n
      · obtain ⟨hcl, hwhere⟩ := hl.below hB
        rcases hwhere with hnil | ⟨bb, off, rfl, hcells⟩
        · rw [hnil] at HN; exact absurd HN.out (by simp; omega)
        obtain ⟨cc, hc⟩ : ∃ cc, l[k]? = some cc := ⟨_, List.getElem?_eq_getElem (by rw [HN.out]; exact hlt)⟩
        obtain ⟨z0, z1, z2⟩ := hcells k cc hc
        have x1 := World.block_lt_of_cell? _ _ z0
        have hcc := hcl cc (List.mem_of_getElem? hc)
        have hcw := hl.1 cc (List.mem_of_getElem? hc)
        have hc3 := HPK.out k cc hc
        have d1 : (0 : Int) ≤ k := by omega
        have d2 : (k : Int) < n := by omega
        clear hcells hc hcl
        go_wp2_with fail
        refine (does_any s g h cc _ hx hr hi hcc hc3 (fun y hy hne => by have := hcw.2.2.2.2 y hy hne; omega)).mono ?_
        rintro e w4 ⟨rfl, ⟨s1, hx4, hr4, hi4⟩, hb4⟩
        have b4 := hB.trans (hb4 _ hge hhe hB.size)
        clear z0 z1 z2 x1 hb4 hx hr hcc hcw
        go_wp2_with fail
        refine (same_any s1 g h _ hx4 hr4 hi4).mono ?_
        rintro e w5 ⟨rfl, hb5⟩
        have hx5 := hx4.below hb5
        have hr5 := hr4.below hb5
        have b5 := below_on b4 hb5
        go_wp2_with fail
        go_roundw
        case rel => exact ⟨k + 1, s1, by omega, by go_num, hx5, hr5, hi4, b5⟩
        case measure => simp [intOf]; omega
      · obtain rfl : k = n := by omega
        go_wp2_with fail
        refine (works_any _).mono ?_
        rintro e w3 ⟨rfl, hb3⟩
        go_wp2_with fail
        go_ret
        exact ⟨rfl, below_on hB hb3⟩
theorem walk_ExecPlays (a0 a1 a2 : Int) (a3 : Option Addr) (len3 cap3 : Nat) (w : World) (_w0 : (Lit.int .i64 a0).wf = true) (_w1 : (Lit.int .i64 a1).wf = true) (_w2 : (Lit.int .i64 a2).wf = true) (w3 : Rd Try.prog w 22 [.slice a3 len3 cap3]) :
    Calls Try.prog 3 #[.int .i64 a0, .int .i64 a1, .int .i64 a2, .slice a3 len3 cap3] w fun e w' => e = .returned (.bool true) ∧ Below w.heap.size w w' := by
  obtain ⟨l, h1, h2, h3⟩ := cls_of w3
  exact plays_any a0 a1 a2 a3 len3 cap3 l w h1 h2 h3
end Go.Proofs.Ytaonkcfmlgaobaa
