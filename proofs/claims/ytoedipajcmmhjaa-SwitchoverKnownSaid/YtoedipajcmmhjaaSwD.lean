/-
  Walks of package switchover: Granted.
-/
import Derived.Test.YtoedipajcmmhjaaSwC
import Derived.Deep.DeepCutAuto
import Derived.Deep.CutBlock
import Derived.Deep.LoopGhost
import Derived.Deep.RegionHeld3
import Derived.StillTailTactics
namespace Go.Proofs.Ytoedipajcmmhjaa
open Go.RowKit
attribute [local irreducible] takeR holdsB tm

theorem ttake_is (x y er p ge gu a b : Int) (w : World) (hR : takeR ge gu a b = ⟨x, y, er⟩) :
    Calls Try.prog 25 #[.agg #[.int .i64 p, .int .i64 ge, .int .i64 gu], .agg #[.int .i64 a, .int .i64 b]] w
      fun e w' => e = .returned (.tuple #[.agg #[.int .i64 p, .int .i64 x, .int .i64 y], .int .i64 er]) ∧ Below w.heap.size w w' := by
  have := take_any p ge gu a b w
  rw [hR] at this
  exact this
theorem heap_new26 (w : World) (o : Obj) : (w.alloc o).heap[w.heap.size]? = some o := alloc1 w o (Below.refl _ _)
theorem only_s6 (g : Nat) (w : World) (x y z u v r : Value) : Only g w ((((((w.setCell ⟨g, 0, none⟩ x).setCell ⟨g, 1, none⟩ y).setCell ⟨g, 2, none⟩ z).setCell ⟨g, 3, none⟩ u).setCell ⟨g, 4, none⟩ v).setCell ⟨g, 5, none⟩ r) := (((((((Only.refl g w).setCell rfl _).setCell rfl _).setCell rfl _).setCell rfl _).setCell rfl _).setCell rfl _)
theorem SwAt.drew {g : Nat} {w : World} {s : Sw} (h : SwAt w g s) : SwAt w.drew g s := h.below (Below.refl _ w).drew
theorem set6 {g : Nat} {w : World} {s : Sw} (h : SwAt w g s) (p x y a : Int) : SwAt ((((((w.setCell ⟨g, 0, none⟩ (.int .i64 p)).setCell ⟨g, 1, none⟩ (.int .i64 x)).setCell ⟨g, 2, none⟩ (.int .i64 y)).setCell ⟨g, 3, none⟩ (.int .u8 1)).setCell ⟨g, 4, none⟩ (.int .i64 a)).setCell ⟨g, 5, none⟩ (.int .i64 0)) g ⟨p, x, y, true, a, 0⟩ := by
  have h0 := blk_set h 0 (.int .i64 p)
  have h1 := blk_set h0 1 (.int .i64 x)
  have h2 := blk_set h1 2 (.int .i64 y)
  have h3 := blk_set h2 3 (.int .u8 1)
  have h4 := blk_set h3 4 (.int .i64 a)
  exact blk_set h4 5 (.int .i64 0)
theorem only_s3 (g : Nat) (w : World) (x y z : Value) : Only g w (((w.setCell ⟨g, 0, none⟩ x).setCell ⟨g, 1, none⟩ y).setCell ⟨g, 2, none⟩ z) := (((Only.refl g w).setCell rfl _).setCell rfl _).setCell rfl _
set_option maxHeartbeats 4000000 in
theorem granted_is (s : Sw) (g : Nat) (a b : Int) (w : World) (h : SwAt w g s) : Calls Try.prog 14 #[.pointer (some ⟨g, 0, none⟩), .agg #[.int .i64 a, .int .i64 b]] w fun e w' => e = .returned (.int .i64 (grantR s a b).2) ∧ SwAt w' g (grantR s a b).1 ∧ Only g w w' := by
  have hB0 := below1 w (.cells #[.int .i64 a, .int .i64 b] 43)
  have H := Lib.hid h
  have H1 := Lib.hid (h.below hB0)
  have HO := Lib.hid (Only.of_below (g := g) hB0)
  have hlt := blk_lt h
  clear h hB0
  by_cases h1 : a < 1
  · have HP : Hid (grantR s a b = (s, 2)) := Lib.hid (by unfold grantR; rw [if_pos (.inl h1)])
    go_enter Try.func14, Try.ntmps14
    go_wp2_with fail
    go_ret
    rw [HP.out]
    exact ⟨rfl, H1.out, HO.out⟩
  by_cases h2 : 1099511627776 < a
  · have HP : Hid (grantR s a b = (s, 2)) := Lib.hid (by unfold grantR; rw [if_pos (.inr h2)])
    go_enter Try.func14, Try.ntmps14
    go_wp2_with fail
    go_ret
    rw [HP.out]
    exact ⟨rfl, H1.out, HO.out⟩
  obtain ⟨x, y, er, hR⟩ : ∃ x y er, takeR s.ge s.gu a b = ⟨x, y, er⟩ := ⟨_, _, _, rfl⟩
  have HT := Lib.hid hR
  have HQ : Hid (grantR s a b = if er ≠ 0 then (s, er) else if a = s.ge ∧ s.ac = false then (s, 4) else if a < s.kn then (s, 230) else (⟨s.p, x, y, true, a, 0⟩, 0)) := Lib.hid (by unfold grantR; rw [if_neg (by omega), hR])
  clear hR
  obtain ⟨G, hG⟩ : ∃ G, G = w.heap.size := ⟨_, rfl⟩
  have kG0 : (w.alloc (.cells #[.int .i64 a, .int .i64 b] 43)).heap[w.heap.size]? = some (.cells #[.int .i64 a, .int .i64 b] 43) := alloc1 w _ (Below.refl _ _)
  go_enter Try.func14, Try.ntmps14
  go_wp2_with fail
  have bG0 := below1 w (.cells #[.int .i64 a, .int .i64 b] 43)
  have h1s := H1.out
  rw [← hG] at kG0
  obtain ⟨W, hW⟩ : ∃ W, W = w.alloc (.cells #[.int .i64 a, .int .i64 b] 43) := ⟨_, rfl⟩
  rw [← hW] at kG0 h1s bG0 ⊢
  rw [← hG]
  clear hW H1 HO
  have HBG := Lib.hid bG0
  have HGG := Lib.hid hG
  clear hG bG0
  go_upto_region 5 with fail
  go_cut [5, 6, 19] (fun s5 s6 _s19 wx => ∃ N : Nat, s5 = .pointer (some ⟨N, 0, none⟩) ∧ s6 = .int .i64 er ∧ SwAt wx g s ∧ wx.heap[G]? = some (.cells #[.int .i64 a, .int .i64 b] 43) ∧ wx.heap[N]? = some (.cells #[.int .i64 s.p, .int .i64 x, .int .i64 y] 49) ∧ Below w.heap.size w wx ∧ G < N ∧ g < G)
  case first =>
    have lN : g < W.heap.size := blk_lt h1s
    have hgG : g < G := by rw [HGG.out]; exact hlt
    have lG : G < W.heap.size := blk_lt kG0
    have kNd : (W.alloc (Obj.cells #[Value.int IntKind.i64 0, Value.int IntKind.i64 0, Value.int IntKind.i64 0] 49)).drew.heap[W.heap.size]? = _ := heap_new26 W (Obj.cells #[Value.int IntKind.i64 0, Value.int IntKind.i64 0, Value.int IntKind.i64 0] 49)
    have bNd : Below W.heap.size W (W.alloc (Obj.cells #[Value.int IntKind.i64 0, Value.int IntKind.i64 0, Value.int IntKind.i64 0] 49)).drew := (below1 W (Obj.cells #[Value.int IntKind.i64 0, Value.int IntKind.i64 0, Value.int IntKind.i64 0] 49)).drew
    have bD : Below W.heap.size W W.drew := (Below.refl _ W).drew
    have HS : Hid (∀ w', Below W.heap.size W w' → (w'.cell? ⟨g, 0, none⟩ = some (.int .i64 s.p) ∧ w'.cell? ⟨g, 1, none⟩ = some (.int .i64 s.ge) ∧ w'.cell? ⟨g, 2, none⟩ = some (.int .i64 s.gu) ∧ w'.cell? ⟨G, 0, none⟩ = some (.int .i64 a) ∧ w'.cell? ⟨G, 1, none⟩ = some (.int .i64 b))) := Lib.hid (fun w' hw' => by
      have q := blk_keep hw' h1s
      have r := blk_keep hw' kG0
      exact ⟨blk_cell q 0 _ rfl, blk_cell q 1 _ rfl, blk_cell q 2 _ rfl, blk_cell r 0 _ rfl, blk_cell r 1 _ rfl⟩)
    have H2 := Lib.hid h1s
    have HK := Lib.hid kG0
    clear h1s kG0
    go_region_held3 (fun w' => w'.cell? ⟨g, 0, none⟩ = some (.int .i64 s.p) ∧ w'.cell? ⟨g, 1, none⟩ = some (.int .i64 s.ge) ∧ w'.cell? ⟨g, 2, none⟩ = some (.int .i64 s.gu) ∧ w'.cell? ⟨G, 0, none⟩ = some (.int .i64 a) ∧ w'.cell? ⟨G, 1, none⟩ = some (.int .i64 b))
      (exact HS.out _ (by first | assumption | (repeat first | assumption | with_reducible refine Below.drew ?_ | ((with_reducible refine Below.setCell ?_ ?_ _); rotate_left; (dsimp only; omega)) | ((with_reducible refine Below.alloc ?_ ?_ _); rotate_left; omega))))
      (first
        | (go_at_call 25; (with_reducible refine (ttake_is x y er _ _ _ _ _ _ HT.out).mono ?_); rintro e w9 ⟨rfl, hb9⟩; (first | (have kN9 := blk_keep hb9 kNd; have hB9 := below_on bNd hb9; have f2 := blk_free kN9; have m0 := blk_cell kN9 0 _ rfl; have m1 := blk_cell kN9 1 _ rfl; have m2 := blk_cell kN9 2 _ rfl) | (have hB9 := below_on bD hb9)); have sB9 := hB9.size))
    all_goals
      have hF9 := H2.out.below hB9
      have kG9 := blk_keep hB9 HK.out
      have hBA := below_on HBG.out hB9
      go_wp2_with fail
      go_meet
      first
        | (have kN9' := kN9; exact ⟨W.heap.size, rfl, rfl, hF9.only (only_s3 _ _ _ _ _) (by omega), (only_s3 _ _ _ _ _).keep (by omega) kG9, blk_set (blk_set (blk_set kN9' 0 _) 1 _) 2 _, Only.below hBA (by have := HGG.out; omega) hBA.size (only_s3 _ _ _ _ _), by omega, hgG⟩)
        | exact ⟨w9.heap.size, rfl, rfl, hF9.below (below1 _ _), blk_keep (below1 _ _) kG9, heap_new26 w9 _, below_on hBA (below1 _ _), by have := blk_lt kG9; omega, hgG⟩
  case rest =>
    obtain ⟨N, rfl, rfl, hF, kG, kN, hB, lN, lg⟩ := hcut
    have c0 := blk_cell hF 0 _ rfl
    have c1 := blk_cell hF 1 _ rfl
    have c2 := blk_cell hF 2 _ rfl
    have c4 := blk_cell hF 4 _ rfl
    have c5 := blk_cell hF 5 _ rfl
    have ff := blk_free hF
    have g0 := blk_cell kG 0 _ rfl
    have g1 := blk_cell kG 1 _ rfl
    have n0 := blk_cell kN 0 _ rfl
    have n1 := blk_cell kN 1 _ rfl
    have n2 := blk_cell kN 2 _ rfl
    have HF := Lib.hid hF
    have HO := Lib.hid (Only.of_below (g := g) hB)
    have HK := Lib.hid kG
    have HN := Lib.hid kN
    clear kG kN hB
    by_cases h3 : er = 0
    · subst h3
      cases ha : s.ac with
      | false =>
        have RR := Lib.hid (show some (Value.int .u8 (rol s.ac)) = some (Value.int .u8 0) by rw [ha]; rfl)
        have c3 := (blk_cell hF 3 _ rfl).trans RR.out
        by_cases h5 : a = s.ge
        · have d5 : (a == s.ge) = true := by simpa using h5
          have HP : Hid (grantR s a b = (s, 4)) := Lib.hid (by rw [HQ.out, if_neg (by decide), if_pos ⟨h5, ha⟩])
          clear hF ha h5
          go_wp2_with fail
          go_quiet (fail)
          obtain ⟨W2, hW2⟩ : ∃ W', W' = wc.drewN nq := ⟨_, rfl⟩
          have bW2 := below_drewN (Below.refl wc.heap.size wc) nq
          rw [← hW2] at bW2 ⊢
          have HF := Lib.hid (HF.out.below bW2)
          have HK := Lib.hid (blk_keep bW2 HK.out)
          have HN := Lib.hid (blk_keep bW2 HN.out)
          have HO := Lib.hid (HO.out.trans (Only.of_below (g := g) bW2))
          clear hW2 bW2 c0 c1 c2 c3 c4 c5 ff g0 g1 n0 n1 n2 nq
          have c0 := blk_cell HF.out 0 _ rfl
          have c1 := blk_cell HF.out 1 _ rfl
          have c2 := blk_cell HF.out 2 _ rfl
          have c3 := (blk_cell HF.out 3 _ rfl).trans RR.out
          have c4 := blk_cell HF.out 4 _ rfl
          have c5 := blk_cell HF.out 5 _ rfl
          have ff := blk_free HF.out
          have g0 := blk_cell HK.out 0 _ rfl
          have g1 := blk_cell HK.out 1 _ rfl
          have n0 := blk_cell HN.out 0 _ rfl
          have n1 := blk_cell HN.out 1 _ rfl
          have n2 := blk_cell HN.out 2 _ rfl
          go_wp2_with fail
          go_ret
          rw [HP.out]
          exact ⟨rfl, HF.out, HO.out⟩
        · have d5 : (a == s.ge) = false := by simpa using h5
          by_cases h6 : a < s.kn
          · have HP : Hid (grantR s a b = (s, 230)) := Lib.hid (by rw [HQ.out, if_neg (by decide), if_neg (fun h => h5 h.1), if_pos h6])
            clear hF ha h5
            go_wp2_with fail
            go_quiet (fail)
            obtain ⟨W2, hW2⟩ : ∃ W', W' = wc.drewN nq := ⟨_, rfl⟩
            have bW2 := below_drewN (Below.refl wc.heap.size wc) nq
            rw [← hW2] at bW2 ⊢
            have HF := Lib.hid (HF.out.below bW2)
            have HK := Lib.hid (blk_keep bW2 HK.out)
            have HN := Lib.hid (blk_keep bW2 HN.out)
            have HO := Lib.hid (HO.out.trans (Only.of_below (g := g) bW2))
            clear hW2 bW2 c0 c1 c2 c3 c4 c5 ff g0 g1 n0 n1 n2 nq
            have c0 := blk_cell HF.out 0 _ rfl
            have c1 := blk_cell HF.out 1 _ rfl
            have c2 := blk_cell HF.out 2 _ rfl
            have c3 := (blk_cell HF.out 3 _ rfl).trans RR.out
            have c4 := blk_cell HF.out 4 _ rfl
            have c5 := blk_cell HF.out 5 _ rfl
            have ff := blk_free HF.out
            have g0 := blk_cell HK.out 0 _ rfl
            have g1 := blk_cell HK.out 1 _ rfl
            have n0 := blk_cell HN.out 0 _ rfl
            have n1 := blk_cell HN.out 1 _ rfl
            have n2 := blk_cell HN.out 2 _ rfl
            go_wp2_with fail
            go_quiet (fail)
            obtain ⟨W3, hW3⟩ : ∃ W', W' = W2.drewN nq := ⟨_, rfl⟩
            have bW3 := below_drewN (Below.refl W2.heap.size W2) nq
            rw [← hW3] at bW3 ⊢
            have HF := Lib.hid (HF.out.below bW3)
            have HK := Lib.hid (blk_keep bW3 HK.out)
            have HN := Lib.hid (blk_keep bW3 HN.out)
            have HO := Lib.hid (HO.out.trans (Only.of_below (g := g) bW3))
            clear hW3 bW3 c0 c1 c2 c3 c4 c5 ff g0 g1 n0 n1 n2 nq
            have c0 := blk_cell HF.out 0 _ rfl
            have c1 := blk_cell HF.out 1 _ rfl
            have c2 := blk_cell HF.out 2 _ rfl
            have c3 := (blk_cell HF.out 3 _ rfl).trans RR.out
            have c4 := blk_cell HF.out 4 _ rfl
            have c5 := blk_cell HF.out 5 _ rfl
            have ff := blk_free HF.out
            have g0 := blk_cell HK.out 0 _ rfl
            have g1 := blk_cell HK.out 1 _ rfl
            have n0 := blk_cell HN.out 0 _ rfl
            have n1 := blk_cell HN.out 1 _ rfl
            have n2 := blk_cell HN.out 2 _ rfl
            go_wp2_with fail
            go_ret
            rw [HP.out]
            exact ⟨rfl, HF.out, HO.out⟩
          · have HP : Hid (grantR s a b = (⟨s.p, x, y, true, a, 0⟩, 0)) := Lib.hid (by rw [HQ.out, if_neg (by decide), if_neg (fun h => h5 h.1), if_neg h6])
            clear hF ha h5
            go_wp2_with fail
            go_quiet (fail)
            obtain ⟨W2, hW2⟩ : ∃ W', W' = wc.drewN nq := ⟨_, rfl⟩
            have bW2 := below_drewN (Below.refl wc.heap.size wc) nq
            rw [← hW2] at bW2 ⊢
            have HF := Lib.hid (HF.out.below bW2)
            have HK := Lib.hid (blk_keep bW2 HK.out)
            have HN := Lib.hid (blk_keep bW2 HN.out)
            have HO := Lib.hid (HO.out.trans (Only.of_below (g := g) bW2))
            clear hW2 bW2 c0 c1 c2 c3 c4 c5 ff g0 g1 n0 n1 n2 nq
            have c0 := blk_cell HF.out 0 _ rfl
            have c1 := blk_cell HF.out 1 _ rfl
            have c2 := blk_cell HF.out 2 _ rfl
            have c3 := (blk_cell HF.out 3 _ rfl).trans RR.out
            have c4 := blk_cell HF.out 4 _ rfl
            have c5 := blk_cell HF.out 5 _ rfl
            have ff := blk_free HF.out
            have g0 := blk_cell HK.out 0 _ rfl
            have g1 := blk_cell HK.out 1 _ rfl
            have n0 := blk_cell HN.out 0 _ rfl
            have n1 := blk_cell HN.out 1 _ rfl
            have n2 := blk_cell HN.out 2 _ rfl
            go_wp2_with fail
            go_quiet (fail)
            obtain ⟨W3, hW3⟩ : ∃ W', W' = W2.drewN nq := ⟨_, rfl⟩
            have bW3 := below_drewN (Below.refl W2.heap.size W2) nq
            rw [← hW3] at bW3 ⊢
            have HF := Lib.hid (HF.out.below bW3)
            have HK := Lib.hid (blk_keep bW3 HK.out)
            have HN := Lib.hid (blk_keep bW3 HN.out)
            have HO := Lib.hid (HO.out.trans (Only.of_below (g := g) bW3))
            clear hW3 bW3 c0 c1 c2 c3 c4 c5 ff g0 g1 n0 n1 n2 nq
            have c0 := blk_cell HF.out 0 _ rfl
            have c1 := blk_cell HF.out 1 _ rfl
            have c2 := blk_cell HF.out 2 _ rfl
            have c3 := (blk_cell HF.out 3 _ rfl).trans RR.out
            have c4 := blk_cell HF.out 4 _ rfl
            have c5 := blk_cell HF.out 5 _ rfl
            have ff := blk_free HF.out
            have g0 := blk_cell HK.out 0 _ rfl
            have g1 := blk_cell HK.out 1 _ rfl
            have n0 := blk_cell HN.out 0 _ rfl
            have n1 := blk_cell HN.out 1 _ rfl
            have n2 := blk_cell HN.out 2 _ rfl
            go_wp2_with fail
            have HS : Hid (∀ w', Only g W3 w' → (w'.cell? ⟨N, 0, none⟩ = some (.int .i64 s.p) ∧ w'.cell? ⟨N, 1, none⟩ = some (.int .i64 x) ∧ w'.cell? ⟨N, 2, none⟩ = some (.int .i64 y) ∧ w'.cell? ⟨G, 0, none⟩ = some (.int .i64 a))) := Lib.hid (fun w' hw' => by
              have q := hw'.keep (by omega) HN.out
              have r := hw'.keep (by omega) HK.out
              exact ⟨blk_cell q 0 _ rfl, blk_cell q 1 _ rfl, blk_cell q 2 _ rfl, blk_cell r 0 _ rfl⟩)
            go_region_held3 (fun w' => w'.cell? ⟨N, 0, none⟩ = some (.int .i64 s.p) ∧ w'.cell? ⟨N, 1, none⟩ = some (.int .i64 x) ∧ w'.cell? ⟨N, 2, none⟩ = some (.int .i64 y) ∧ w'.cell? ⟨G, 0, none⟩ = some (.int .i64 a))
              (exact HS.out _ (by repeat first | with_reducible exact Only.refl _ _ | with_reducible refine Only.drew ?_ | ((with_reducible refine Only.setCell ?_ ?_ _); rotate_left; exact rfl))) (fail)
            go_wp2_with fail
            go_ret
            rw [HP.out]
            exact ⟨rfl, (set6 HF.out s.p x y a).drew, HO.out.trans (only_s6 _ _ _ _ _ _ _ _).drew⟩
      | true =>
        have RR := Lib.hid (show some (Value.int .u8 (rol s.ac)) = some (Value.int .u8 1) by rw [ha]; rfl)
        have c3 := (blk_cell hF 3 _ rfl).trans RR.out
        obtain ⟨C, hC⟩ : ∃ C, (a == s.ge) = C := ⟨_, rfl⟩
        have h5 : True := trivial
        cases C
        · by_cases h6 : a < s.kn
          · have HP : Hid (grantR s a b = (s, 230)) := Lib.hid (by rw [HQ.out, if_neg (by decide), if_neg (by rw [ha]; simp), if_pos h6])
            clear hF ha h5
            go_wp2_with fail
            go_quiet (fail)
            obtain ⟨W2, hW2⟩ : ∃ W', W' = wc.drewN nq := ⟨_, rfl⟩
            have bW2 := below_drewN (Below.refl wc.heap.size wc) nq
            rw [← hW2] at bW2 ⊢
            have HF := Lib.hid (HF.out.below bW2)
            have HK := Lib.hid (blk_keep bW2 HK.out)
            have HN := Lib.hid (blk_keep bW2 HN.out)
            have HO := Lib.hid (HO.out.trans (Only.of_below (g := g) bW2))
            clear hW2 bW2 c0 c1 c2 c3 c4 c5 ff g0 g1 n0 n1 n2 nq
            have c0 := blk_cell HF.out 0 _ rfl
            have c1 := blk_cell HF.out 1 _ rfl
            have c2 := blk_cell HF.out 2 _ rfl
            have c3 := (blk_cell HF.out 3 _ rfl).trans RR.out
            have c4 := blk_cell HF.out 4 _ rfl
            have c5 := blk_cell HF.out 5 _ rfl
            have ff := blk_free HF.out
            have g0 := blk_cell HK.out 0 _ rfl
            have g1 := blk_cell HK.out 1 _ rfl
            have n0 := blk_cell HN.out 0 _ rfl
            have n1 := blk_cell HN.out 1 _ rfl
            have n2 := blk_cell HN.out 2 _ rfl
            go_wp2_with fail
            go_quiet (fail)
            obtain ⟨W3, hW3⟩ : ∃ W', W' = W2.drewN nq := ⟨_, rfl⟩
            have bW3 := below_drewN (Below.refl W2.heap.size W2) nq
            rw [← hW3] at bW3 ⊢
            have HF := Lib.hid (HF.out.below bW3)
            have HK := Lib.hid (blk_keep bW3 HK.out)
            have HN := Lib.hid (blk_keep bW3 HN.out)
            have HO := Lib.hid (HO.out.trans (Only.of_below (g := g) bW3))
            clear hW3 bW3 c0 c1 c2 c3 c4 c5 ff g0 g1 n0 n1 n2 nq
            have c0 := blk_cell HF.out 0 _ rfl
            have c1 := blk_cell HF.out 1 _ rfl
            have c2 := blk_cell HF.out 2 _ rfl
            have c3 := (blk_cell HF.out 3 _ rfl).trans RR.out
            have c4 := blk_cell HF.out 4 _ rfl
            have c5 := blk_cell HF.out 5 _ rfl
            have ff := blk_free HF.out
            have g0 := blk_cell HK.out 0 _ rfl
            have g1 := blk_cell HK.out 1 _ rfl
            have n0 := blk_cell HN.out 0 _ rfl
            have n1 := blk_cell HN.out 1 _ rfl
            have n2 := blk_cell HN.out 2 _ rfl
            go_wp2_with fail
            go_ret
            rw [HP.out]
            exact ⟨rfl, HF.out, HO.out⟩
          · have HP : Hid (grantR s a b = (⟨s.p, x, y, true, a, 0⟩, 0)) := Lib.hid (by rw [HQ.out, if_neg (by decide), if_neg (by rw [ha]; simp), if_neg h6])
            clear hF ha h5
            go_wp2_with fail
            go_quiet (fail)
            obtain ⟨W2, hW2⟩ : ∃ W', W' = wc.drewN nq := ⟨_, rfl⟩
            have bW2 := below_drewN (Below.refl wc.heap.size wc) nq
            rw [← hW2] at bW2 ⊢
            have HF := Lib.hid (HF.out.below bW2)
            have HK := Lib.hid (blk_keep bW2 HK.out)
            have HN := Lib.hid (blk_keep bW2 HN.out)
            have HO := Lib.hid (HO.out.trans (Only.of_below (g := g) bW2))
            clear hW2 bW2 c0 c1 c2 c3 c4 c5 ff g0 g1 n0 n1 n2 nq
            have c0 := blk_cell HF.out 0 _ rfl
            have c1 := blk_cell HF.out 1 _ rfl
            have c2 := blk_cell HF.out 2 _ rfl
            have c3 := (blk_cell HF.out 3 _ rfl).trans RR.out
            have c4 := blk_cell HF.out 4 _ rfl
            have c5 := blk_cell HF.out 5 _ rfl
            have ff := blk_free HF.out
            have g0 := blk_cell HK.out 0 _ rfl
            have g1 := blk_cell HK.out 1 _ rfl
            have n0 := blk_cell HN.out 0 _ rfl
            have n1 := blk_cell HN.out 1 _ rfl
            have n2 := blk_cell HN.out 2 _ rfl
            go_wp2_with fail
            go_quiet (fail)
            obtain ⟨W3, hW3⟩ : ∃ W', W' = W2.drewN nq := ⟨_, rfl⟩
            have bW3 := below_drewN (Below.refl W2.heap.size W2) nq
            rw [← hW3] at bW3 ⊢
            have HF := Lib.hid (HF.out.below bW3)
            have HK := Lib.hid (blk_keep bW3 HK.out)
            have HN := Lib.hid (blk_keep bW3 HN.out)
            have HO := Lib.hid (HO.out.trans (Only.of_below (g := g) bW3))
            clear hW3 bW3 c0 c1 c2 c3 c4 c5 ff g0 g1 n0 n1 n2 nq
            have c0 := blk_cell HF.out 0 _ rfl
            have c1 := blk_cell HF.out 1 _ rfl
            have c2 := blk_cell HF.out 2 _ rfl
            have c3 := (blk_cell HF.out 3 _ rfl).trans RR.out
            have c4 := blk_cell HF.out 4 _ rfl
            have c5 := blk_cell HF.out 5 _ rfl
            have ff := blk_free HF.out
            have g0 := blk_cell HK.out 0 _ rfl
            have g1 := blk_cell HK.out 1 _ rfl
            have n0 := blk_cell HN.out 0 _ rfl
            have n1 := blk_cell HN.out 1 _ rfl
            have n2 := blk_cell HN.out 2 _ rfl
            go_wp2_with fail
            have HS : Hid (∀ w', Only g W3 w' → (w'.cell? ⟨N, 0, none⟩ = some (.int .i64 s.p) ∧ w'.cell? ⟨N, 1, none⟩ = some (.int .i64 x) ∧ w'.cell? ⟨N, 2, none⟩ = some (.int .i64 y) ∧ w'.cell? ⟨G, 0, none⟩ = some (.int .i64 a))) := Lib.hid (fun w' hw' => by
              have q := hw'.keep (by omega) HN.out
              have r := hw'.keep (by omega) HK.out
              exact ⟨blk_cell q 0 _ rfl, blk_cell q 1 _ rfl, blk_cell q 2 _ rfl, blk_cell r 0 _ rfl⟩)
            go_region_held3 (fun w' => w'.cell? ⟨N, 0, none⟩ = some (.int .i64 s.p) ∧ w'.cell? ⟨N, 1, none⟩ = some (.int .i64 x) ∧ w'.cell? ⟨N, 2, none⟩ = some (.int .i64 y) ∧ w'.cell? ⟨G, 0, none⟩ = some (.int .i64 a))
              (exact HS.out _ (by repeat first | with_reducible exact Only.refl _ _ | with_reducible refine Only.drew ?_ | ((with_reducible refine Only.setCell ?_ ?_ _); rotate_left; exact rfl))) (fail)
            go_wp2_with fail
            go_ret
            rw [HP.out]
            exact ⟨rfl, (set6 HF.out s.p x y a).drew, HO.out.trans (only_s6 _ _ _ _ _ _ _ _).drew⟩
        · by_cases h6 : a < s.kn
          · have HP : Hid (grantR s a b = (s, 230)) := Lib.hid (by rw [HQ.out, if_neg (by decide), if_neg (by rw [ha]; simp), if_pos h6])
            clear hF ha h5
            go_wp2_with fail
            go_quiet (fail)
            obtain ⟨W2, hW2⟩ : ∃ W', W' = wc.drewN nq := ⟨_, rfl⟩
            have bW2 := below_drewN (Below.refl wc.heap.size wc) nq
            rw [← hW2] at bW2 ⊢
            have HF := Lib.hid (HF.out.below bW2)
            have HK := Lib.hid (blk_keep bW2 HK.out)
            have HN := Lib.hid (blk_keep bW2 HN.out)
            have HO := Lib.hid (HO.out.trans (Only.of_below (g := g) bW2))
            clear hW2 bW2 c0 c1 c2 c3 c4 c5 ff g0 g1 n0 n1 n2 nq
            have c0 := blk_cell HF.out 0 _ rfl
            have c1 := blk_cell HF.out 1 _ rfl
            have c2 := blk_cell HF.out 2 _ rfl
            have c3 := (blk_cell HF.out 3 _ rfl).trans RR.out
            have c4 := blk_cell HF.out 4 _ rfl
            have c5 := blk_cell HF.out 5 _ rfl
            have ff := blk_free HF.out
            have g0 := blk_cell HK.out 0 _ rfl
            have g1 := blk_cell HK.out 1 _ rfl
            have n0 := blk_cell HN.out 0 _ rfl
            have n1 := blk_cell HN.out 1 _ rfl
            have n2 := blk_cell HN.out 2 _ rfl
            go_wp2_with fail
            go_quiet (fail)
            obtain ⟨W3, hW3⟩ : ∃ W', W' = W2.drewN nq := ⟨_, rfl⟩
            have bW3 := below_drewN (Below.refl W2.heap.size W2) nq
            rw [← hW3] at bW3 ⊢
            have HF := Lib.hid (HF.out.below bW3)
            have HK := Lib.hid (blk_keep bW3 HK.out)
            have HN := Lib.hid (blk_keep bW3 HN.out)
            have HO := Lib.hid (HO.out.trans (Only.of_below (g := g) bW3))
            clear hW3 bW3 c0 c1 c2 c3 c4 c5 ff g0 g1 n0 n1 n2 nq
            have c0 := blk_cell HF.out 0 _ rfl
            have c1 := blk_cell HF.out 1 _ rfl
            have c2 := blk_cell HF.out 2 _ rfl
            have c3 := (blk_cell HF.out 3 _ rfl).trans RR.out
            have c4 := blk_cell HF.out 4 _ rfl
            have c5 := blk_cell HF.out 5 _ rfl
            have ff := blk_free HF.out
            have g0 := blk_cell HK.out 0 _ rfl
            have g1 := blk_cell HK.out 1 _ rfl
            have n0 := blk_cell HN.out 0 _ rfl
            have n1 := blk_cell HN.out 1 _ rfl
            have n2 := blk_cell HN.out 2 _ rfl
            go_wp2_with fail
            go_ret
            rw [HP.out]
            exact ⟨rfl, HF.out, HO.out⟩
          · have HP : Hid (grantR s a b = (⟨s.p, x, y, true, a, 0⟩, 0)) := Lib.hid (by rw [HQ.out, if_neg (by decide), if_neg (by rw [ha]; simp), if_neg h6])
            clear hF ha h5
            go_wp2_with fail
            go_quiet (fail)
            obtain ⟨W2, hW2⟩ : ∃ W', W' = wc.drewN nq := ⟨_, rfl⟩
            have bW2 := below_drewN (Below.refl wc.heap.size wc) nq
            rw [← hW2] at bW2 ⊢
            have HF := Lib.hid (HF.out.below bW2)
            have HK := Lib.hid (blk_keep bW2 HK.out)
            have HN := Lib.hid (blk_keep bW2 HN.out)
            have HO := Lib.hid (HO.out.trans (Only.of_below (g := g) bW2))
            clear hW2 bW2 c0 c1 c2 c3 c4 c5 ff g0 g1 n0 n1 n2 nq
            have c0 := blk_cell HF.out 0 _ rfl
            have c1 := blk_cell HF.out 1 _ rfl
            have c2 := blk_cell HF.out 2 _ rfl
            have c3 := (blk_cell HF.out 3 _ rfl).trans RR.out
            have c4 := blk_cell HF.out 4 _ rfl
            have c5 := blk_cell HF.out 5 _ rfl
            have ff := blk_free HF.out
            have g0 := blk_cell HK.out 0 _ rfl
            have g1 := blk_cell HK.out 1 _ rfl
            have n0 := blk_cell HN.out 0 _ rfl
            have n1 := blk_cell HN.out 1 _ rfl
            have n2 := blk_cell HN.out 2 _ rfl
            go_wp2_with fail
            go_quiet (fail)
            obtain ⟨W3, hW3⟩ : ∃ W', W' = W2.drewN nq := ⟨_, rfl⟩
            have bW3 := below_drewN (Below.refl W2.heap.size W2) nq
            rw [← hW3] at bW3 ⊢
            have HF := Lib.hid (HF.out.below bW3)
            have HK := Lib.hid (blk_keep bW3 HK.out)
            have HN := Lib.hid (blk_keep bW3 HN.out)
            have HO := Lib.hid (HO.out.trans (Only.of_below (g := g) bW3))
            clear hW3 bW3 c0 c1 c2 c3 c4 c5 ff g0 g1 n0 n1 n2 nq
            have c0 := blk_cell HF.out 0 _ rfl
            have c1 := blk_cell HF.out 1 _ rfl
            have c2 := blk_cell HF.out 2 _ rfl
            have c3 := (blk_cell HF.out 3 _ rfl).trans RR.out
            have c4 := blk_cell HF.out 4 _ rfl
            have c5 := blk_cell HF.out 5 _ rfl
            have ff := blk_free HF.out
            have g0 := blk_cell HK.out 0 _ rfl
            have g1 := blk_cell HK.out 1 _ rfl
            have n0 := blk_cell HN.out 0 _ rfl
            have n1 := blk_cell HN.out 1 _ rfl
            have n2 := blk_cell HN.out 2 _ rfl
            go_wp2_with fail
            have HS : Hid (∀ w', Only g W3 w' → (w'.cell? ⟨N, 0, none⟩ = some (.int .i64 s.p) ∧ w'.cell? ⟨N, 1, none⟩ = some (.int .i64 x) ∧ w'.cell? ⟨N, 2, none⟩ = some (.int .i64 y) ∧ w'.cell? ⟨G, 0, none⟩ = some (.int .i64 a))) := Lib.hid (fun w' hw' => by
              have q := hw'.keep (by omega) HN.out
              have r := hw'.keep (by omega) HK.out
              exact ⟨blk_cell q 0 _ rfl, blk_cell q 1 _ rfl, blk_cell q 2 _ rfl, blk_cell r 0 _ rfl⟩)
            go_region_held3 (fun w' => w'.cell? ⟨N, 0, none⟩ = some (.int .i64 s.p) ∧ w'.cell? ⟨N, 1, none⟩ = some (.int .i64 x) ∧ w'.cell? ⟨N, 2, none⟩ = some (.int .i64 y) ∧ w'.cell? ⟨G, 0, none⟩ = some (.int .i64 a))
              (exact HS.out _ (by repeat first | with_reducible exact Only.refl _ _ | with_reducible refine Only.drew ?_ | ((with_reducible refine Only.setCell ?_ ?_ _); rotate_left; exact rfl))) (fail)
            go_wp2_with fail
            go_ret
            rw [HP.out]
            exact ⟨rfl, (set6 HF.out s.p x y a).drew, HO.out.trans (only_s6 _ _ _ _ _ _ _ _).drew⟩
    · have d3 : (er == 0) = false := by simpa using h3
      have d4 : (er != 0) = true := by simpa using h3
      have HP : Hid (grantR s a b = (s, er)) := Lib.hid (by rw [HQ.out, if_pos h3])
      clear h3 hF
      go_wp2_with fail
      go_ret
      rw [HP.out]
      exact ⟨rfl, HF.out, HO.out⟩
end Go.Proofs.Ytoedipajcmmhjaa
