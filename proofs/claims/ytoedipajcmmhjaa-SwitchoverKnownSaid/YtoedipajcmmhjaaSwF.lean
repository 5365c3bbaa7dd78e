/-
  Chapter 26: Renew, and what a switch wants of the book.
-/
import Derived.Test.YtoedipajcmmhjaaSwE
namespace Go.Proofs.Ytoedipajcmmhjaa
open Go.RowKit
attribute [local irreducible] takeR holdsB tm inB inL rightB okB ofR askR renewR giveR askedR grantR refR

set_option maxHeartbeats 2000000 in
theorem asks_renew (s : Sw) (g : Nat) (E H U p t e h u ge gu er : Int) (w : World) (hH1 : -9223372036854775808 ≤ H) (hH2 : H ≤ 9223372036854775807) (hR : renewR E H U p s.ge t = ⟨e, h, u, ge, gu, er⟩) (hs : SwAt w g s) :
    Calls Try.prog 10 #[.agg #[.int .i64 E, .int .i64 H, .int .i64 U], .pointer (some ⟨g, 0, none⟩), .int .i64 p, .int .u8 2, .int .i64 t] w
      fun x w' => x = .returned (.agg #[.int .i64 e, .int .i64 h, .int .i64 u]) ∧ (er = 0 → SwAt w' g (grantR s ge gu).1) ∧ (¬ er = 0 → SwAt w' g (refR s).1) ∧ Only g w w' := by
  have HR := Lib.hid hR
  have HH := Lib.hid (And.intro hH1 hH2)
  have hB := below3 w (.cells #[.int .i64 E, .int .i64 H, .int .i64 U] 31) (.cells #[.int .i64 0, .int .i64 0, .int .i64 0] 31) (.cells #[.int .i64 0, .int .i64 0] 43)
  obtain ⟨k0, k1, k2⟩ := alloc3' w (.cells #[.int .i64 E, .int .i64 H, .int .i64 U] 31) (.cells #[.int .i64 0, .int .i64 0, .int .i64 0] 31) (.cells #[.int .i64 0, .int .i64 0] 43)
  have hs3 := hs.below hB
  have hlt := blk_lt hs
  clear hR hH1 hH2 hs
  go_enter Try.func10, Try.ntmps10
  go_wp2_with fail
  obtain ⟨W, hW⟩ : ∃ W, W = ((w.alloc (Obj.cells #[Value.int IntKind.i64 E, Value.int IntKind.i64 H, Value.int IntKind.i64 U] 31)).alloc (Obj.cells #[Value.int IntKind.i64 0, Value.int IntKind.i64 0, Value.int IntKind.i64 0] 31)).alloc (Obj.cells #[Value.int IntKind.i64 0, Value.int IntKind.i64 0] 43) := ⟨_, rfl⟩
  rw [← hW] at k0 k1 k2 hB hs3 ⊢
  clear hW
  obtain ⟨A0, hA0⟩ : ∃ A0, A0 = w.heap.size := ⟨_, rfl⟩
  have HA0 := Lib.hid hA0
  rw [← hA0] at k0 k1 k2 hlt ⊢
  clear hA0
  have a0 := blk_cell k0 0 _ rfl
  have a1 := blk_cell k0 1 _ rfl
  have a2 := blk_cell k0 2 _ rfl
  have KK := Lib.hid (And.intro k0 (And.intro k1 k2))
  have HS3 := Lib.hid hs3
  have HBW := Lib.hid hB
  clear k0 k1 k2 hs3 hB
  by_cases her : er = 0
  · subst her
    go_upto_region 8 with fail
    go_region_with (first
        | (go_at_call 12; refine (epoch_is s g _ (HS3.out.below (by first | exact Below.refl _ _ | exact (Below.refl _ _).drew))).mono ?_; rintro x w8 ⟨rfl, rfl⟩)
        | (go_at_call 22; refine (lrenew_is e h u ge gu _ E H U p s.ge t _ HH.out.1 HH.out.2 HR.out).mono ?_; rintro x w9 ⟨rfl, hb9⟩; have hb9 : Below W.heap.size W w9 := (Below.refl _ W).drew.trans hb9; have k0 := blk_keep hb9 KK.out.1; have k2 := blk_keep hb9 KK.out.2.2; have x0 := blk_cell k0 0 _ rfl; have x1 := blk_cell k0 1 _ rfl; have x2 := blk_cell k0 2 _ rfl; have k1 := blk_keep hb9 KK.out.2.1; have hs1 := HS3.out.below hb9; have hB1 := below_on HBW.out hb9; have v0 := blk_cell k2 0 _ rfl; have v1 := blk_cell k2 1 _ rfl; have f0 := blk_free k0; have f2 := blk_free k2))
    all_goals
      have hB2 : Below A0 w w9 := HA0.out ▸ hB1
      clear a0 a1 a2
      go_wp2_with fail
      refine (granted_is s g ge gu _ (sw_set (sw_set (sw_set (sw_set (sw_set hs1 (by omega)) (by omega)) (by omega)) (by omega)) (by omega))).mono ?_
      rintro x w2 ⟨rfl, hs2, ho2⟩
      have q0' := ho2.keep (by omega) (blk_set_other (blk_set_other (blk_set (blk_set (blk_set k0 0 (.int .i64 e)) 1 (.int .i64 h)) 2 (.int .i64 u)) 0 (.int .i64 ge) (by omega)) 1 (.int .i64 gu) (by omega))
      have q1' := ho2.keep (by omega) (blk_set_other (blk_set_other (blk_set_other (blk_set_other (blk_set_other k1 0 (.int .i64 e) (by omega)) 1 (.int .i64 h) (by omega)) 2 (.int .i64 u) (by omega)) 0 (.int .i64 ge) (by omega)) 1 (.int .i64 gu) (by omega))
      have e0 := blk_cell q0' 0 (.int .i64 e) rfl
      have e1 := blk_cell q0' 1 (.int .i64 h) rfl
      have e2 := blk_cell q0' 2 (.int .i64 u) rfl
      have r0 := blk_cell q1' 0 _ rfl
      have r1 := blk_cell q1' 1 _ rfl
      have r2 := blk_cell q1' 2 _ rfl
      have fr := blk_free q1'
      have HOO := Lib.hid (Only.trans (set5_only (g := g) hB2 (Nat.le_refl _) (Nat.le_succ _) (by omega) _ _ _ _ _ HA0.out) ho2)
      clear ho2 q0' q1' hB1 hB2 k0 k1 k2 hs1 x0 x1 x2 v0 v1 f0 f2
      go_wp2_with fail
      refine bodyPost_ret (v := .agg #[.int .i64 e, .int .i64 h, .int .i64 u]) (by simp [results, Try.results10, go_sem, *]) rfl ?_
      have hA := HA0.out
      exact ⟨rfl, sw_set (sw_set (sw_set hs2 (by omega)) (by omega)) (by omega), only_new (only_new (only_new HOO.out (by omega) _) (by omega) _) (by omega) _⟩
  · have d1 : (er == 0) = false := by simpa using her
    have d2 : (er != 0) = true := by simpa using her
    have HE := Lib.hid her
    clear her
    go_upto_region 8 with fail
    go_region_with (first
        | (go_at_call 12; refine (epoch_is s g _ (HS3.out.below (by first | exact Below.refl _ _ | exact (Below.refl _ _).drew))).mono ?_; rintro x w8 ⟨rfl, rfl⟩)
        | (go_at_call 22; refine (lrenew_is e h u ge gu _ E H U p s.ge t _ HH.out.1 HH.out.2 HR.out).mono ?_; rintro x w9 ⟨rfl, hb9⟩; have hb9 : Below W.heap.size W w9 := (Below.refl _ W).drew.trans hb9; have k0 := blk_keep hb9 KK.out.1; have k2 := blk_keep hb9 KK.out.2.2; have x0 := blk_cell k0 0 _ rfl; have x1 := blk_cell k0 1 _ rfl; have x2 := blk_cell k0 2 _ rfl; have k1 := blk_keep hb9 KK.out.2.1; have hs1 := HS3.out.below hb9; have hB1 := below_on HBW.out hb9; have v0 := blk_cell k2 0 _ rfl; have v1 := blk_cell k2 1 _ rfl; have f0 := blk_free k0; have f2 := blk_free k2))
    all_goals
      have hB2 : Below A0 w w9 := HA0.out ▸ hB1
      clear a0 a1 a2
      go_wp2_with fail
      refine (refused_is s g _ (sw_set (sw_set (sw_set (sw_set (sw_set hs1 (by omega)) (by omega)) (by omega)) (by omega)) (by omega))).mono ?_
      rintro x w2 ⟨rfl, hs2, ho2⟩
      have q0' := ho2.keep (by omega) (blk_set_other (blk_set_other (blk_set (blk_set (blk_set k0 0 (.int .i64 e)) 1 (.int .i64 h)) 2 (.int .i64 u)) 0 (.int .i64 ge) (by omega)) 1 (.int .i64 gu) (by omega))
      have q1' := ho2.keep (by omega) (blk_set_other (blk_set_other (blk_set_other (blk_set_other (blk_set_other k1 0 (.int .i64 e) (by omega)) 1 (.int .i64 h) (by omega)) 2 (.int .i64 u) (by omega)) 0 (.int .i64 ge) (by omega)) 1 (.int .i64 gu) (by omega))
      have e0 := blk_cell q0' 0 (.int .i64 e) rfl
      have e1 := blk_cell q0' 1 (.int .i64 h) rfl
      have e2 := blk_cell q0' 2 (.int .i64 u) rfl
      have r0 := blk_cell q1' 0 _ rfl
      have r1 := blk_cell q1' 1 _ rfl
      have r2 := blk_cell q1' 2 _ rfl
      have fr := blk_free q1'
      have HOO := Lib.hid (Only.trans (set5_only (g := g) hB2 (Nat.le_refl _) (Nat.le_succ _) (by omega) _ _ _ _ _ HA0.out) ho2)
      clear ho2 q0' q1' hB1 hB2 k0 k1 k2 hs1 x0 x1 x2 v0 v1 f0 f2
      go_wp2_with fail
      refine bodyPost_ret (v := .agg #[.int .i64 e, .int .i64 h, .int .i64 u]) (by simp [results, Try.results10, go_sem, *]) rfl ?_
      have hA := HA0.out
      exact ⟨rfl, fun h => absurd h HE.out, fun _ => sw_set (sw_set (sw_set hs2 (by omega)) (by omega)) (by omega), only_new (only_new (only_new HOO.out (by omega) _) (by omega) _) (by omega) _⟩
end Go.Proofs.Ytoedipajcmmhjaa
