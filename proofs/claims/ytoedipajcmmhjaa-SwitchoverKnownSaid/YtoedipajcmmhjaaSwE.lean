/-
  Chapter 26: what a switch wants of the book is done, and answered.
-/
import Derived.Test.YtoedipajcmmhjaaSwD
import Derived.Test.YtoedipajcmmhjaaLeaseAsk
import Derived.Test.YtoedipajcmmhjaaLeaseRenew
namespace Go.Proofs.Ytoedipajcmmhjaa
open Go.RowKit
attribute [local irreducible] takeR holdsB tm inB inL rightB okB ofR askR renewR giveR askedR grantR refR

theorem lask_is (e h u ge gu er E H U p t : Int) (w : World) (hH1 : -9223372036854775808 ≤ H) (hH2 : H ≤ 9223372036854775807) (hR : askR E H U p t = ⟨e, h, u, ge, gu, er⟩) :
    Calls Try.prog 21 #[.agg #[.int .i64 E, .int .i64 H, .int .i64 U], .int .i64 p, .int .i64 t] w fun x w' => x = .returned (.tuple #[.agg #[.int .i64 e, .int .i64 h, .int .i64 u], .agg #[.int .i64 ge, .int .i64 gu], .int .i64 er]) ∧ Below w.heap.size w w' := by
  have := ask_any E H U p t w hH1 hH2
  rw [hR] at this
  exact this
theorem lrenew_is (e h u ge gu er E H U p n t : Int) (w : World) (hH1 : -9223372036854775808 ≤ H) (hH2 : H ≤ 9223372036854775807) (hR : renewR E H U p n t = ⟨e, h, u, ge, gu, er⟩) :
    Calls Try.prog 22 #[.agg #[.int .i64 E, .int .i64 H, .int .i64 U], .int .i64 p, .int .i64 n, .int .i64 t] w fun x w' => x = .returned (.tuple #[.agg #[.int .i64 e, .int .i64 h, .int .i64 u], .agg #[.int .i64 ge, .int .i64 gu], .int .i64 er]) ∧ Below w.heap.size w w' := by
  have := renew_any E H U p n t w hH1 hH2
  rw [hR] at this
  exact this
set_option maxHeartbeats 1000000 in
theorem asks_none (g : Nat) (E H U p wt t : Int) (w : World) (h1 : ¬ wt = 1) (h2 : ¬ wt = 2) :
    Calls Try.prog 10 #[.agg #[.int .i64 E, .int .i64 H, .int .i64 U], .pointer (some ⟨g, 0, none⟩), .int .i64 p, .int .u8 wt, .int .i64 t] w
      fun x w' => x = .returned (.agg #[.int .i64 E, .int .i64 H, .int .i64 U]) ∧ Below w.heap.size w w' := by
  have d1 : (wt == 1) = false := by simpa using h1
  have d2 : (wt == 2) = false := by simpa using h2
  have hB := below3 w (.cells #[.int .i64 E, .int .i64 H, .int .i64 U] 31) (.cells #[.int .i64 E, .int .i64 H, .int .i64 U] 31) (.cells #[.int .i64 0, .int .i64 0] 43)
  clear h1 h2
  go_enter Try.func10, Try.ntmps10
  go_wp2_with fail
  exact bodyPost_ret (v := .agg #[.int .i64 E, .int .i64 H, .int .i64 U]) (by simp [results, Try.results10, go_sem]) rfl ⟨rfl, hB⟩
theorem sw_set {w : World} {g k i : Nat} {s : Sw} {v : Value} (h : SwAt w g s) (hk : k ≠ g) : SwAt (w.setCell ⟨k, i, none⟩ v) g s := blk_set_other h i v hk
theorem only_new {g k i : Nat} {w w2 : World} (h : Only g w w2) (hk : w.heap.size ≤ k) (v : Value) : Only g w (w2.setCell ⟨k, i, none⟩ v) :=
  have b := (Below.refl 0 w2).setCell (p := ⟨k, i, none⟩) (Nat.zero_le _) v
  ⟨b.os.trans h.os, b.tape.trans h.tape, b.output.trans h.output, Nat.le_trans h.size b.size, fun j hj hg => (Below.heap_setCell w2 ⟨k, i, none⟩ v j (by show j ≠ k; omega)).trans (h.block j hj hg)⟩
theorem set5_only {g B : Nat} {w w1 : World} (h : Below B w w1) (hB : B ≤ B) (hC : B ≤ B + 1) (_hg : g < B) (x y z u v : Value) (hs : B = w.heap.size := by rfl) : Only g w (((((w1.setCell ⟨B, 0, none⟩ x).setCell ⟨B, 1, none⟩ y).setCell ⟨B, 2, none⟩ z).setCell ⟨B + 1 + 1, 0, none⟩ u).setCell ⟨B + 1 + 1, 1, none⟩ v) := by
  subst hs
  have h2 : w.heap.size ≤ w.heap.size + 1 + 1 := by omega
  exact Only.of_below (((((h.setCell hB x).setCell hB y).setCell hB z).setCell h2 u).setCell h2 v)
set_option maxHeartbeats 2000000 in
theorem asks_ask (s : Sw) (g : Nat) (E H U p t e h u ge gu er : Int) (w : World) (hH1 : -9223372036854775808 ≤ H) (hH2 : H ≤ 9223372036854775807) (hR : askR E H U p t = ⟨e, h, u, ge, gu, er⟩) (hs : SwAt w g s) :
    Calls Try.prog 10 #[.agg #[.int .i64 E, .int .i64 H, .int .i64 U], .pointer (some ⟨g, 0, none⟩), .int .i64 p, .int .u8 1, .int .i64 t] w
      fun x w' => x = .returned (.agg #[.int .i64 e, .int .i64 h, .int .i64 u]) ∧ (er = 0 → SwAt w' g (grantR s ge gu).1) ∧ (¬ er = 0 → SwAt w' g (refR s).1) ∧ Only g w w' := by
  have HR := Lib.hid hR
  have HH := Lib.hid (And.intro hH1 hH2)
  have hB := below3 w (.cells #[.int .i64 E, .int .i64 H, .int .i64 U] 31) (.cells #[.int .i64 0, .int .i64 0, .int .i64 0] 31) (.cells #[.int .i64 0, .int .i64 0] 43)
  obtain ⟨k0, k1, k2⟩ := alloc3' w (.cells #[.int .i64 E, .int .i64 H, .int .i64 U] 31) (.cells #[.int .i64 0, .int .i64 0, .int .i64 0] 31) (.cells #[.int .i64 0, .int .i64 0] 43)
  have hs3 := hs.below hB
  have hlt := blk_lt hs
  clear hR hH1 hH2 hs
  go_enter Try.func10, Try.ntmps10
  go_wp2_with fail
  refine (lask_is e h u ge gu er E H U p t _ HH.out.1 HH.out.2 HR.out).mono ?_
  rintro x w1 ⟨rfl, hb1⟩
  have k0 := blk_keep hb1 k0
  have k1 := blk_keep hb1 k1
  have k2 := blk_keep hb1 k2
  have hB1 := below_on hB hb1
  have hs1 := hs3.below hb1
  clear hB hs3 hb1
  have a0 := blk_cell k0 0 _ rfl
  have a1 := blk_cell k0 1 _ rfl
  have a2 := blk_cell k0 2 _ rfl
  have b0 := blk_cell k2 0 _ rfl
  have b1 := blk_cell k2 1 _ rfl
  have f0 := blk_free k0
  have f2 := blk_free k2
  by_cases her : er = 0
  · subst her
    go_wp2_with fail
    refine (granted_is s g ge gu _ (sw_set (sw_set (sw_set (sw_set (sw_set hs1 (by omega)) (by omega)) (by omega)) (by omega)) (by omega))).mono ?_
    rintro x w2 ⟨rfl, hs2, ho2⟩
    have q0' := ho2.keep (by omega) (blk_set_other (blk_set_other (blk_set (blk_set (blk_set k0 0 (.int .i64 e)) 1 (.int .i64 h)) 2 (.int .i64 u)) 0 (.int .i64 ge) (by omega)) 1 (.int .i64 gu) (by omega))
    have q1' := ho2.keep (by omega) (blk_set_other (blk_set_other (blk_set_other (blk_set_other (blk_set_other k1 0 (.int .i64 e) (by omega)) 1 (.int .i64 h) (by omega)) 2 (.int .i64 u) (by omega)) 0 (.int .i64 ge) (by omega)) 1 (.int .i64 gu) (by omega))
    have e0 := blk_cell q0' 0 (.int .i64 e) rfl
    have e1 := blk_cell q0' 1 (.int .i64 h) rfl
    have e2 := blk_cell q0' 2 (.int .i64 u) rfl
    have r0 := blk_cell q1' 0 _ rfl
    have r1 := blk_cell q1' 1 _ rfl
    have r2 := blk_cell q1' 2 _ rfl
    have fr := blk_free q1'
    have HOO := Lib.hid (Only.trans (set5_only (g := g) hB1 (B := w.heap.size) (Nat.le_refl _) (Nat.le_succ _) (by omega) _ _ _ _ _) ho2)
    clear ho2 q0' q1' hB1 k0 k1 hs1
    go_wp2_with fail
    refine bodyPost_ret (v := .agg #[.int .i64 e, .int .i64 h, .int .i64 u]) (by simp [results, Try.results10, go_sem, *]) rfl ?_
    exact ⟨rfl, sw_set (sw_set (sw_set hs2 (by omega)) (by omega)) (by omega), only_new (only_new (only_new HOO.out (by omega) _) (by omega) _) (by omega) _⟩
  · have d1 : (er == 0) = false := by simpa using her
    have d2 : (er != 0) = true := by simpa using her
    have HE := Lib.hid her
    clear her
    go_wp2_with fail
    refine (refused_is s g _ (sw_set (sw_set (sw_set (sw_set (sw_set hs1 (by omega)) (by omega)) (by omega)) (by omega)) (by omega))).mono ?_
    rintro x w2 ⟨rfl, hs2, ho2⟩
    have q0' := ho2.keep (by omega) (blk_set_other (blk_set_other (blk_set (blk_set (blk_set k0 0 (.int .i64 e)) 1 (.int .i64 h)) 2 (.int .i64 u)) 0 (.int .i64 ge) (by omega)) 1 (.int .i64 gu) (by omega))
    have q1' := ho2.keep (by omega) (blk_set_other (blk_set_other (blk_set_other (blk_set_other (blk_set_other k1 0 (.int .i64 e) (by omega)) 1 (.int .i64 h) (by omega)) 2 (.int .i64 u) (by omega)) 0 (.int .i64 ge) (by omega)) 1 (.int .i64 gu) (by omega))
    have e0 := blk_cell q0' 0 (.int .i64 e) rfl
    have e1 := blk_cell q0' 1 (.int .i64 h) rfl
    have e2 := blk_cell q0' 2 (.int .i64 u) rfl
    have r0 := blk_cell q1' 0 _ rfl
    have r1 := blk_cell q1' 1 _ rfl
    have r2 := blk_cell q1' 2 _ rfl
    have fr := blk_free q1'
    have HOO := Lib.hid (Only.trans (set5_only (g := g) hB1 (B := w.heap.size) (Nat.le_refl _) (Nat.le_succ _) (by omega) _ _ _ _ _) ho2)
    clear ho2 q0' q1' hB1 k0 k1 hs1
    go_wp2_with fail
    refine bodyPost_ret (v := .agg #[.int .i64 e, .int .i64 h, .int .i64 u]) (by simp [results, Try.results10, go_sem, *]) rfl ?_
    exact ⟨rfl, fun h => absurd h HE.out, fun _ => sw_set (sw_set (sw_set hs2 (by omega)) (by omega)) (by omega), only_new (only_new (only_new HOO.out (by omega) _) (by omega) _) (by omega) _⟩
end Go.Proofs.Ytoedipajcmmhjaa
