/-
  The walk of the statement ExecOrder of chapter 19.
-/
import Derived.Test.YtaonkcfmlgaobaaExecOrdP
namespace Go.Proofs.Ytaonkcfmlgaobaa
open Go.RowKit
attribute [local irreducible] ESt.tick ESt.done ESt.reset ESt.left ESt.pick badB

set_option maxRecDepth 100000 in
set_option maxHeartbeats 20000000 in
theorem order_any (a b : Nat) (x : Option Addr) (n cap : Nat) (l : List Cl) (w : World) (ha : a < 256) (hb : b < 256) (hn : l.length = n) (hm : n ≤ maxLen) (hl : ClsAt w x l) :
    Calls Try.prog 4 #[.int .u8 (a : Int), .int .u8 (b : Int), .slice x n cap] w fun e w' => e = .returned (.bool true) ∧ Below w.heap.size w w' := by
  have HN := Lib.hid hn
  clear hn
  have hf := few_any x n cap l w HN.out hm hl
  obtain ⟨N, hN, hN1, hN2⟩ : ∃ N : Nat, (1 : Int) + (a : Int) % 16 = N ∧ 1 ≤ N ∧ N ≤ 16 := ⟨1 + a % 16, by norm_cast, by omega, by omega⟩
  obtain ⟨M, hM, hM1, hM2⟩ : ∃ M : Nat, (1 : Int) + (b : Int) = M ∧ 1 ≤ M ∧ M ≤ 256 := ⟨1 + b, by norm_cast, by omega, by omega⟩
  have a1 : (0 : Int) ≤ (a : Int) % 16 := by omega
  have a2 : (a : Int) % 16 ≤ 15 := by omega
  have a3 : (0 : Int) ≤ (a : Int) := by omega
  have a4 : (0 : Int) ≤ (b : Int) := by omega
  have a5 : (b : Int) ≤ 255 := by omega
  have HB : Hid (badB N M 0 = false) := Lib.hid (by unfold badB; apply decide_eq_false; omega)
  go_enter Try.func4, Try.ntmps4
  go_wp2_with fail
  refine hf.mono ?_
  rintro e w' ⟨B, rfl, hB, rfl⟩
  cases B with
  | false =>
    go_wp2_with fail
    refine (works_any _).mono ?_
    rintro e w3 ⟨rfl, hb3⟩
    go_wp2_with fail
    go_ret
    exact ⟨rfl, hb3⟩
  | true =>
  obtain ⟨hl300, hpicks⟩ := hB rfl
  have hn300 : n ≤ 300 := by rw [← HN.out]; exact hl300
  have HPK := Lib.hid hpicks
  have hi0 := einv_new HB.out
  clear hB hf hl300 hpicks
  go_wp2_with fail
  refine (new_ok N M 0 _ HB.out).mono ?_
  rintro e w1 ⟨rfl, hx1, hb1⟩
  obtain ⟨g, hgd⟩ : ∃ g, g = w.heap.size := ⟨_, rfl⟩
  rw [← hgd] at hx1 ⊢
  have hge : w.heap.size ≤ g := by omega
  clear hgd hN hM a1 a2 a3 a4 a5
  go_wp2_with fail
  have nz : ((N : Int) == 0) = false := by simp; omega
  have nz2 : (1 : Int) ≤ (N : Int) := by omega
  have nz0 : ¬ N = 0 := by omega
  have nz3 : (N : Int) ≤ 16 := by omega
  go_loopw [11, 12, 13] (fun d t i wr => ∃ (k D T : Nat) (s : ESt), k ≤ n ∧ i = .int .i64 k ∧ d = .int .i64 D ∧ t = .int .i64 T ∧ Ord N M s D T ∧ D ≤ k * 3001 ∧ T ≤ k ∧ ExAt wr g s ∧ EInv s ∧ Below w.heap.size w wr) (fun _ _ i _ => n - (intOf i).toNat)
  case atStart => exact ⟨0, 0, 0, _, by omega, rfl, rfl, rfl, ⟨rfl, rfl, ⟨0, 0, rfl, rfl, by omega⟩, (fun h => by cases h), fun _ => rfl⟩, by omega, by omega, hx1, hi0, hb1⟩
  case round =>
    obtain ⟨k, D, T, s, hk, rfl, rfl, rfl, hO, hD, hT, hx, hi, hB⟩ := hrel
    clear hx1 hi0 hb1
    by_cases hlt : k < n
    · obtain ⟨hcl, hwhere⟩ := hl.below hB
      rcases hwhere with hnil | ⟨bb, off, rfl, hcells⟩
      · rw [hnil] at HN; exact absurd HN.out (by simp; omega)
      obtain ⟨cc, hc⟩ : ∃ cc, l[k]? = some cc := ⟨_, List.getElem?_eq_getElem (by rw [HN.out]; exact hlt)⟩
      obtain ⟨z0, z1, z2⟩ := hcells k cc hc
      have x1 := World.block_lt_of_cell? _ _ z0
      have hcc := hcl cc (List.mem_of_getElem? hc)
      have hcw := hl.1 cc (List.mem_of_getElem? hc)
      have hc3 := HPK.out k cc hc
      have d1 : (0 : Int) ≤ k := by omega
      have d2 : (k : Int) < n := by omega
      obtain ⟨ck, cph, ca, cn, cp, cl⟩ := cc
      dsimp only at z0 z1 z2 hc3
      clear hcells hc hcl
      rcases (show ck % 6 = 0 ∨ ck % 6 = 1 ∨ ck % 6 = 2 ∨ ck % 6 = 3 ∨ ck % 6 = 4 ∨ ck % 6 = 5 by omega) with hk6 | hk6 | hk6 | hk6 | hk6 | hk6
      · skip
        have hm : (ck : Int) % 6 = 0 := by omega
        clear hk6
        go_wp2_with fail
        refine (tick_any s g _ hx hi).mono ?_
        rintro e wq ⟨rfl, hx1, ho1⟩
        have hO1 := hO.tick hi
        have hi1 := hi.tick
        have bq := Only.below hB hge hB.size ho1
        have d7 : (T : Int) ≤ 300 := by omega
        have d8 : (0 : Int) ≤ T := by omega
        clear z0 z1 z2 x1 hx
        obtain ⟨s1, hs1⟩ : ∃ s1, s.tick.1 = s1 := ⟨_, rfl⟩
        rw [hs1] at hx1 hO1 hi1
        clear hs1
        clear hB
        go_wp2_with fail
        go_loopw [11, 12, 15] (fun d t j wr => ∃ (q D2 T2 : Nat) (s2 : ESt), q ≤ 0 ∧ j = .int .i64 q ∧ d = .int .i64 D2 ∧ t = .int .i64 T2 ∧ Ord N M s2 D2 T2 ∧ D2 ≤ k * 3001 + q ∧ T2 ≤ k + 1 ∧ ExAt wr g s2 ∧ EInv s2 ∧ Only g wq wr) (fun _ _ j _ => 0 - (intOf j).toNat)
        case atStart => exact ⟨0, D, (T + 1), s1, by omega, rfl, rfl, by go_num, hO1, by omega, by omega, hx1, hi1, Only.refl _ _⟩
        case round =>
          obtain ⟨q, D2, T2, s2, hq, rfl, rfl, rfl, hO2, hD2, hT2, hx2, hi2, ho2⟩ := hrel
          obtain ⟨f1, f2, f3, f4⟩ := hO2.quo hi2
          have f5 := hO2.late hi2
          have f5n : decide (M < T2) = s2.late := by rw [← f5]; simp
          by_cases hlq : q < 0
          · exact absurd hlq (by omega)
          · obtain rfl : q = 0 := by omega
            have b2 : Below w.heap.size w wr := Only.below bq hge bq.size ho2
            have v1 : IntKind.i64.wrap s2.cy = s2.cy := by have := hi2.cy1; have := hi2.cy2; rw [IntKind.wrap_i64]; omega
            have v2 : IntKind.i64.wrap s2.p = s2.p := by have := hi2.p1; have := hi2.p2; have := hi2.ph2; rw [IntKind.wrap_i64]; omega
            have c1 : ∀ w', Below wr.heap.size wr w' → Calls Try.prog 15 #[.pointer (some ⟨g, 0, none⟩)] w' fun e w'' => e = .returned (.int .i64 s2.cy) ∧ Below wr.heap.size wr w'' :=
              fun w' hw' => (cycle_any s2 g w' (hx2.below hw')).mono (fun e w9 ⟨h1, h2⟩ => ⟨h1, h2 ▸ hw'⟩)
            have c2 : ∀ w', Below wr.heap.size wr w' → Calls Try.prog 16 #[.pointer (some ⟨g, 0, none⟩)] w' fun e w'' => e = .returned (.int .i64 s2.p) ∧ Below wr.heap.size wr w'' :=
              fun w' hw' => (phase_any s2 g w' (hx2.below hw')).mono (fun e w9 ⟨h1, h2⟩ => ⟨h1, h2 ▸ hw'⟩)
            have c3 : ∀ w', Below wr.heap.size wr w' → Calls Try.prog 13 #[.pointer (some ⟨g, 0, none⟩)] w' fun e w'' => e = .returned (.bool s2.late) ∧ Below wr.heap.size wr w'' :=
              fun w' hw' => (late_any s2 g w' (hx2.below hw')).mono (fun e w9 ⟨h1, h2⟩ => ⟨h1, h2 ▸ hw'⟩)
            have e5 : (0 : Int) ≤ (D2 : Int) := by omega
            have e6 : (D2 : Int) ≤ 2000000 := by have : k * 3001 ≤ 300 * 3001 := Nat.mul_le_mul_right _ (by omega); omega
            go_wp2_with fail
            refine wp_region_calm (by kernel_rfl) ?_ ?_
            · kernel_rfl
            repeat
              (with_reducible apply wpQuiet_step
               intro K hK
               go_simp
               first
                 | (refine hK _ ?_; clear hK K)
                 | (apply Exists.intro
                    refine ⟨fun w' hw' => ?_, hK _ ?_⟩
                    ·
                      (first
                       | with_reducible exact c1 _ hw'
                       | with_reducible exact c2 _ hw'
                       | with_reducible exact c3 _ hw'
                       | (go_simp
                          first | done | with_reducible exact rfl | with_reducible exact ⟨rfl, rfl⟩ | with_reducible exact c1 _ hw' | with_reducible exact c2 _ hw' | with_reducible exact c3 _ hw'))
                    clear hK K))
            refine wpQuiet_nil ?_
            intro w7 hw7
            have hx7 := hx2.below hw7
            have b7 := below_on b2 hw7
            clear c1 c2 c3 f1 f2 f3 f4 f5 f5n e5 e6 v1 v2
            go_wp2_with fail
            go_roundw
            case rel => exact ⟨k + 1, D2, T2, s2, by omega, by go_num, rfl, rfl, hO2, by omega, by omega, hx7, hi2, b7⟩
            case measure => simp [intOf]; omega
      · skip
        have hm : (ck : Int) % 6 = 1 := by omega
        clear hk6
        go_wp2_with fail
        refine (tick_any s g _ hx hi).mono ?_
        rintro e wq ⟨rfl, hx1, ho1⟩
        have hO1 := hO.tick hi
        have hi1 := hi.tick
        have bq := Only.below hB hge hB.size ho1
        have d7 : (T : Int) ≤ 300 := by omega
        have d8 : (0 : Int) ≤ T := by omega
        clear z0 z1 z2 x1 hx
        obtain ⟨s1, hs1⟩ : ∃ s1, s.tick.1 = s1 := ⟨_, rfl⟩
        rw [hs1] at hx1 hO1 hi1
        clear hs1
        clear hB
        go_wp2_with fail
        go_loopw [11, 12, 15] (fun d t j wr => ∃ (q D2 T2 : Nat) (s2 : ESt), q ≤ 0 ∧ j = .int .i64 q ∧ d = .int .i64 D2 ∧ t = .int .i64 T2 ∧ Ord N M s2 D2 T2 ∧ D2 ≤ k * 3001 + q ∧ T2 ≤ k + 1 ∧ ExAt wr g s2 ∧ EInv s2 ∧ Only g wq wr) (fun _ _ j _ => 0 - (intOf j).toNat)
        case atStart => exact ⟨0, D, (T + 1), s1, by omega, rfl, rfl, by go_num, hO1, by omega, by omega, hx1, hi1, Only.refl _ _⟩
        case round =>
          obtain ⟨q, D2, T2, s2, hq, rfl, rfl, rfl, hO2, hD2, hT2, hx2, hi2, ho2⟩ := hrel
          obtain ⟨f1, f2, f3, f4⟩ := hO2.quo hi2
          have f5 := hO2.late hi2
          have f5n : decide (M < T2) = s2.late := by rw [← f5]; simp
          by_cases hlq : q < 0
          · exact absurd hlq (by omega)
          · obtain rfl : q = 0 := by omega
            have b2 : Below w.heap.size w wr := Only.below bq hge bq.size ho2
            have v1 : IntKind.i64.wrap s2.cy = s2.cy := by have := hi2.cy1; have := hi2.cy2; rw [IntKind.wrap_i64]; omega
            have v2 : IntKind.i64.wrap s2.p = s2.p := by have := hi2.p1; have := hi2.p2; have := hi2.ph2; rw [IntKind.wrap_i64]; omega
            have c1 : ∀ w', Below wr.heap.size wr w' → Calls Try.prog 15 #[.pointer (some ⟨g, 0, none⟩)] w' fun e w'' => e = .returned (.int .i64 s2.cy) ∧ Below wr.heap.size wr w'' :=
              fun w' hw' => (cycle_any s2 g w' (hx2.below hw')).mono (fun e w9 ⟨h1, h2⟩ => ⟨h1, h2 ▸ hw'⟩)
            have c2 : ∀ w', Below wr.heap.size wr w' → Calls Try.prog 16 #[.pointer (some ⟨g, 0, none⟩)] w' fun e w'' => e = .returned (.int .i64 s2.p) ∧ Below wr.heap.size wr w'' :=
              fun w' hw' => (phase_any s2 g w' (hx2.below hw')).mono (fun e w9 ⟨h1, h2⟩ => ⟨h1, h2 ▸ hw'⟩)
            have c3 : ∀ w', Below wr.heap.size wr w' → Calls Try.prog 13 #[.pointer (some ⟨g, 0, none⟩)] w' fun e w'' => e = .returned (.bool s2.late) ∧ Below wr.heap.size wr w'' :=
              fun w' hw' => (late_any s2 g w' (hx2.below hw')).mono (fun e w9 ⟨h1, h2⟩ => ⟨h1, h2 ▸ hw'⟩)
            have e5 : (0 : Int) ≤ (D2 : Int) := by omega
            have e6 : (D2 : Int) ≤ 2000000 := by have : k * 3001 ≤ 300 * 3001 := Nat.mul_le_mul_right _ (by omega); omega
            go_wp2_with fail
            refine wp_region_calm (by kernel_rfl) ?_ ?_
            · kernel_rfl
            repeat
              (with_reducible apply wpQuiet_step
               intro K hK
               go_simp
               first
                 | (refine hK _ ?_; clear hK K)
                 | (apply Exists.intro
                    refine ⟨fun w' hw' => ?_, hK _ ?_⟩
                    ·
                      (first
                       | with_reducible exact c1 _ hw'
                       | with_reducible exact c2 _ hw'
                       | with_reducible exact c3 _ hw'
                       | (go_simp
                          first | done | with_reducible exact rfl | with_reducible exact ⟨rfl, rfl⟩ | with_reducible exact c1 _ hw' | with_reducible exact c2 _ hw' | with_reducible exact c3 _ hw'))
                    clear hK K))
            refine wpQuiet_nil ?_
            intro w7 hw7
            have hx7 := hx2.below hw7
            have b7 := below_on b2 hw7
            clear c1 c2 c3 f1 f2 f3 f4 f5 f5n e5 e6 v1 v2
            go_wp2_with fail
            go_roundw
            case rel => exact ⟨k + 1, D2, T2, s2, by omega, by go_num, rfl, rfl, hO2, by omega, by omega, hx7, hi2, b7⟩
            case measure => simp [intOf]; omega
      · skip
        have hm : (ck : Int) % 6 = 2 := by omega
        clear hk6
        go_wp2_with fail
        have kP := alloc1 wr (Obj.cells #[Value.int IntKind.i64 cph] 3) (Below.refl _ _)
        have bq := below_on hB (below1 wr (Obj.cells #[Value.int IntKind.i64 cph] 3))
        have hx1 := hx.below (below1 wr (Obj.cells #[Value.int IntKind.i64 cph] 3))
        have hpi : IntsAt (wr.alloc (Obj.cells #[Value.int IntKind.i64 cph] 3)) (some ⟨wr.heap.size, 0, none⟩) [cph] := ints_lit [cph] rfl kP
        have hgl := hx.lt
        have hpg : ∀ y, some (⟨wr.heap.size, 0, none⟩ : Addr) = some y → [cph] ≠ [] → y.block ≠ g := by intro y hy _; cases hy; dsimp only; omega
        obtain ⟨wq, hwq⟩ : ∃ wq, wq = wr.alloc (Obj.cells #[Value.int IntKind.i64 cph] 3) := ⟨_, rfl⟩
        rw [← hwq] at bq hx1 hpi ⊢
        obtain ⟨B0, hB0⟩ : ∃ B0, B0 = wr.heap.size := ⟨_, rfl⟩
        rw [← hB0] at hpi hpg ⊢
        clear hB0
        have hO1 := hO
        have hi1 := hi
        have HPL : Hid ([cph].length = 1) := Lib.hid rfl
        clear z0 z1 z2 x1 hx hcc kP hwq
        clear hB
        go_wp2_with fail
        go_loopw [11, 12, 15] (fun d t j wr => ∃ (q D2 T2 : Nat) (s2 : ESt), q ≤ 1 ∧ j = .int .i64 q ∧ d = .int .i64 D2 ∧ t = .int .i64 T2 ∧ Ord N M s2 D2 T2 ∧ D2 ≤ k * 3001 + q ∧ T2 ≤ k + 1 ∧ ExAt wr g s2 ∧ EInv s2 ∧ Only g wq wr) (fun _ _ j _ => 1 - (intOf j).toNat)
        case atStart => exact ⟨0, D, T, s, by omega, rfl, rfl, rfl, hO1, by omega, by omega, hx1, hi1, Only.refl _ _⟩
        case round =>
          obtain ⟨q, D2, T2, s2, hq, rfl, rfl, rfl, hO2, hD2, hT2, hx2, hi2, ho2⟩ := hrel
          obtain ⟨f1, f2, f3, f4⟩ := hO2.quo hi2
          have f5 := hO2.late hi2
          have f5n : decide (M < T2) = s2.late := by rw [← f5]; simp
          by_cases hlq : q < 1
          · rcases hpi.only ho2 hpg with hnil | ⟨pb, po, hpa, hpc⟩
            · exact absurd hnil (by simp)
            cases hpa
            obtain ⟨x, hx⟩ : ∃ x, [cph][q]? = some x := ⟨_, List.getElem?_eq_getElem (by rw [HPL.out]; exact hlq)⟩
            have y0 := hpc q x hx
            rw [Nat.zero_add] at y0
            have g1 : (0 : Int) ≤ q := by omega
            have g2 : (q : Int) < 1 := by omega
            obtain ⟨s3, r, hd⟩ : ∃ s3 r, s2.done x = (s3, r) := ⟨_, _, rfl⟩
            have hi3 : EInv s3 := by have := hi2.done x; rw [hd] at this; exact this
            have HD := Lib.hid hd
            clear hpc hx hd
            by_cases hr : r = 0
            · subst hr
              obtain ⟨n1, n2, hor⟩ := hO2.done hi2 HD.out
              have N1 := Lib.hid n1
              have N2 := Lib.hid n2
              have F5 := Lib.hid f5
              have F2 := Lib.hid f2
              have F4 := Lib.hid f4
              clear n1 n2 f1 f2 f3 f4 f5 f5n
              go_wp2_with fail
              refine (late_any s2 g _ hx2).mono ?_
              rintro e w' ⟨rfl, rfl⟩
              rw [N1.out]
              go_wp2_with fail
              refine (done_is s2 s3 0 x g _ HD.out hx2 hi2).mono ?_
              rintro e w3 ⟨rfl, hx3, ho3⟩
              have z0 : w3.cell? ⟨B0, q, none⟩ = some (.int .i64 x) := by
                rw [World.cell?_of_block (w := wr) (ho3.block B0 (World.block_lt_of_cell? _ _ y0) (hpg _ rfl (by simp)))]
                exact y0
              have e1 : decide ((M : Int) < (T2 : Int)) = false := by rw [F5.out, N1.out]
              have e1n : decide (M < T2) = false := decide_eq_false (by have := of_decide_eq_false e1; omega)
              have e2 : (D2 : Int) % (N : Int) = x := by rw [F2.out, N2.out]
              have e4 : (D2 : Int).tmod (N : Int) = x := by rw [F4.out, N2.out]
              have e7 : IntKind.i64.wrap x = x := by have h := N2.out; have := hi2.p1; have := hi2.p2; have := hi2.ph2; rw [IntKind.wrap_i64]; omega
              have e5 : (0 : Int) ≤ (D2 : Int) := by omega
              have e6 : (D2 : Int) ≤ 2000000 := by have : k * 3001 ≤ 300 * 3001 := Nat.mul_le_mul_right _ (by omega); omega
              clear hx2 y0
              go_wp2_with fail
              go_quiet (fail)
              clear e1 e1n e2 e4 e7
              rcases hor with ⟨t1, t2, hO3⟩ | ⟨t1, t2, hO3⟩
              · go_wp2_with fail
                go_roundw
                case rel => exact ⟨q + 1, D2 + 1, T2, s3, by omega, by go_num, by go_num, rfl, hO3, by omega, by omega, hx3, hi3, (ho2.trans ho3).drewN _⟩
                case measure => simp [intOf]; omega
              · go_wp2_with fail
                go_roundw
                case rel => exact ⟨q + 1, D2 + 1, 0, s3, by omega, by go_num, by go_num, rfl, hO3, by omega, by omega, hx3, hi3, (ho2.trans ho3).drewN _⟩
                case measure => simp [intOf]; omega
            · have hs3 : s3 = s2 := done_err HD.out hr
              subst hs3
              have r0 : (r == 0) = false := by simpa using hr
              have r1 : (r != 0) = true := by simpa using hr
              clear hr f1 f2 f3 f4 f5 f5n
              go_wp2_with fail
              refine (late_any s3 g _ hx2).mono ?_
              rintro e w' ⟨rfl, rfl⟩
              go_wp2_with fail
              refine (done_is s3 s3 r x g _ HD.out hx2 hi2).mono ?_
              rintro e w3 ⟨rfl, hx3, ho3⟩
              clear hx2 y0
              go_wp2_with fail
              go_roundw
              case rel => exact ⟨q + 1, D2, T2, s3, by omega, by go_num, rfl, rfl, hO2, by omega, by omega, hx3, hi3, ho2.trans ho3⟩
              case measure => simp [intOf]; omega
          · obtain rfl : q = 1 := by omega
            have b2 : Below w.heap.size w wr := Only.below bq hge bq.size ho2
            have v1 : IntKind.i64.wrap s2.cy = s2.cy := by have := hi2.cy1; have := hi2.cy2; rw [IntKind.wrap_i64]; omega
            have v2 : IntKind.i64.wrap s2.p = s2.p := by have := hi2.p1; have := hi2.p2; have := hi2.ph2; rw [IntKind.wrap_i64]; omega
            have c1 : ∀ w', Below wr.heap.size wr w' → Calls Try.prog 15 #[.pointer (some ⟨g, 0, none⟩)] w' fun e w'' => e = .returned (.int .i64 s2.cy) ∧ Below wr.heap.size wr w'' :=
              fun w' hw' => (cycle_any s2 g w' (hx2.below hw')).mono (fun e w9 ⟨h1, h2⟩ => ⟨h1, h2 ▸ hw'⟩)
            have c2 : ∀ w', Below wr.heap.size wr w' → Calls Try.prog 16 #[.pointer (some ⟨g, 0, none⟩)] w' fun e w'' => e = .returned (.int .i64 s2.p) ∧ Below wr.heap.size wr w'' :=
              fun w' hw' => (phase_any s2 g w' (hx2.below hw')).mono (fun e w9 ⟨h1, h2⟩ => ⟨h1, h2 ▸ hw'⟩)
            have c3 : ∀ w', Below wr.heap.size wr w' → Calls Try.prog 13 #[.pointer (some ⟨g, 0, none⟩)] w' fun e w'' => e = .returned (.bool s2.late) ∧ Below wr.heap.size wr w'' :=
              fun w' hw' => (late_any s2 g w' (hx2.below hw')).mono (fun e w9 ⟨h1, h2⟩ => ⟨h1, h2 ▸ hw'⟩)
            have e5 : (0 : Int) ≤ (D2 : Int) := by omega
            have e6 : (D2 : Int) ≤ 2000000 := by have : k * 3001 ≤ 300 * 3001 := Nat.mul_le_mul_right _ (by omega); omega
            go_wp2_with fail
            refine wp_region_calm (by kernel_rfl) ?_ ?_
            · kernel_rfl
            repeat
              (with_reducible apply wpQuiet_step
               intro K hK
               go_simp
               first
                 | (refine hK _ ?_; clear hK K)
                 | (apply Exists.intro
                    refine ⟨fun w' hw' => ?_, hK _ ?_⟩
                    ·
                      (first
                       | with_reducible exact c1 _ hw'
                       | with_reducible exact c2 _ hw'
                       | with_reducible exact c3 _ hw'
                       | (go_simp
                          first | done | with_reducible exact rfl | with_reducible exact ⟨rfl, rfl⟩ | with_reducible exact c1 _ hw' | with_reducible exact c2 _ hw' | with_reducible exact c3 _ hw'))
                    clear hK K))
            refine wpQuiet_nil ?_
            intro w7 hw7
            have hx7 := hx2.below hw7
            have b7 := below_on b2 hw7
            clear c1 c2 c3 f1 f2 f3 f4 f5 f5n e5 e6 v1 v2
            go_wp2_with fail
            go_roundw
            case rel => exact ⟨k + 1, D2, T2, s2, by omega, by go_num, rfl, rfl, hO2, by omega, by omega, hx7, hi2, b7⟩
            case measure => simp [intOf]; omega
      · skip
        have hm : (ck : Int) % 6 = 3 := by omega
        clear hk6
        go_wp2_with fail
        have kP := alloc1 wr (Obj.cells #[Value.int IntKind.i64 cph] 3) (Below.refl _ _)
        have bq := below_on hB (below1 wr (Obj.cells #[Value.int IntKind.i64 cph] 3))
        have hx1 := hx.below (below1 wr (Obj.cells #[Value.int IntKind.i64 cph] 3))
        have hpi : IntsAt (wr.alloc (Obj.cells #[Value.int IntKind.i64 cph] 3)) (some ⟨wr.heap.size, 0, none⟩) [cph] := ints_lit [cph] rfl kP
        have hgl := hx.lt
        have hpg : ∀ y, some (⟨wr.heap.size, 0, none⟩ : Addr) = some y → [cph] ≠ [] → y.block ≠ g := by intro y hy _; cases hy; dsimp only; omega
        obtain ⟨wq, hwq⟩ : ∃ wq, wq = wr.alloc (Obj.cells #[Value.int IntKind.i64 cph] 3) := ⟨_, rfl⟩
        rw [← hwq] at bq hx1 hpi ⊢
        obtain ⟨B0, hB0⟩ : ∃ B0, B0 = wr.heap.size := ⟨_, rfl⟩
        rw [← hB0] at hpi hpg ⊢
        clear hB0
        have hO1 := hO
        have hi1 := hi
        have HPL : Hid ([cph].length = 1) := Lib.hid rfl
        clear z0 z1 z2 x1 hx hcc kP hwq
        clear hB
        go_wp2_with fail
        go_loopw [11, 12, 15] (fun d t j wr => ∃ (q D2 T2 : Nat) (s2 : ESt), q ≤ 1 ∧ j = .int .i64 q ∧ d = .int .i64 D2 ∧ t = .int .i64 T2 ∧ Ord N M s2 D2 T2 ∧ D2 ≤ k * 3001 + q ∧ T2 ≤ k + 1 ∧ ExAt wr g s2 ∧ EInv s2 ∧ Only g wq wr) (fun _ _ j _ => 1 - (intOf j).toNat)
        case atStart => exact ⟨0, D, T, s, by omega, rfl, rfl, rfl, hO1, by omega, by omega, hx1, hi1, Only.refl _ _⟩
        case round =>
          obtain ⟨q, D2, T2, s2, hq, rfl, rfl, rfl, hO2, hD2, hT2, hx2, hi2, ho2⟩ := hrel
          obtain ⟨f1, f2, f3, f4⟩ := hO2.quo hi2
          have f5 := hO2.late hi2
          have f5n : decide (M < T2) = s2.late := by rw [← f5]; simp
          by_cases hlq : q < 1
          · rcases hpi.only ho2 hpg with hnil | ⟨pb, po, hpa, hpc⟩
            · exact absurd hnil (by simp)
            cases hpa
            obtain ⟨x, hx⟩ : ∃ x, [cph][q]? = some x := ⟨_, List.getElem?_eq_getElem (by rw [HPL.out]; exact hlq)⟩
            have y0 := hpc q x hx
            rw [Nat.zero_add] at y0
            have g1 : (0 : Int) ≤ q := by omega
            have g2 : (q : Int) < 1 := by omega
            obtain ⟨s3, r, hd⟩ : ∃ s3 r, s2.done x = (s3, r) := ⟨_, _, rfl⟩
            have hi3 : EInv s3 := by have := hi2.done x; rw [hd] at this; exact this
            have HD := Lib.hid hd
            clear hpc hx hd
            by_cases hr : r = 0
            · subst hr
              obtain ⟨n1, n2, hor⟩ := hO2.done hi2 HD.out
              have N1 := Lib.hid n1
              have N2 := Lib.hid n2
              have F5 := Lib.hid f5
              have F2 := Lib.hid f2
              have F4 := Lib.hid f4
              clear n1 n2 f1 f2 f3 f4 f5 f5n
              go_wp2_with fail
              refine (late_any s2 g _ hx2).mono ?_
              rintro e w' ⟨rfl, rfl⟩
              rw [N1.out]
              go_wp2_with fail
              refine (done_is s2 s3 0 x g _ HD.out hx2 hi2).mono ?_
              rintro e w3 ⟨rfl, hx3, ho3⟩
              have z0 : w3.cell? ⟨B0, q, none⟩ = some (.int .i64 x) := by
                rw [World.cell?_of_block (w := wr) (ho3.block B0 (World.block_lt_of_cell? _ _ y0) (hpg _ rfl (by simp)))]
                exact y0
              have e1 : decide ((M : Int) < (T2 : Int)) = false := by rw [F5.out, N1.out]
              have e1n : decide (M < T2) = false := decide_eq_false (by have := of_decide_eq_false e1; omega)
              have e2 : (D2 : Int) % (N : Int) = x := by rw [F2.out, N2.out]
              have e4 : (D2 : Int).tmod (N : Int) = x := by rw [F4.out, N2.out]
              have e7 : IntKind.i64.wrap x = x := by have h := N2.out; have := hi2.p1; have := hi2.p2; have := hi2.ph2; rw [IntKind.wrap_i64]; omega
              have e5 : (0 : Int) ≤ (D2 : Int) := by omega
              have e6 : (D2 : Int) ≤ 2000000 := by have : k * 3001 ≤ 300 * 3001 := Nat.mul_le_mul_right _ (by omega); omega
              clear hx2 y0
              go_wp2_with fail
              go_quiet (fail)
              clear e1 e1n e2 e4 e7
              rcases hor with ⟨t1, t2, hO3⟩ | ⟨t1, t2, hO3⟩
              · go_wp2_with fail
                go_roundw
                case rel => exact ⟨q + 1, D2 + 1, T2, s3, by omega, by go_num, by go_num, rfl, hO3, by omega, by omega, hx3, hi3, (ho2.trans ho3).drewN _⟩
                case measure => simp [intOf]; omega
              · go_wp2_with fail
                go_roundw
                case rel => exact ⟨q + 1, D2 + 1, 0, s3, by omega, by go_num, by go_num, rfl, hO3, by omega, by omega, hx3, hi3, (ho2.trans ho3).drewN _⟩
                case measure => simp [intOf]; omega
            · have hs3 : s3 = s2 := done_err HD.out hr
              subst hs3
              have r0 : (r == 0) = false := by simpa using hr
              have r1 : (r != 0) = true := by simpa using hr
              clear hr f1 f2 f3 f4 f5 f5n
              go_wp2_with fail
              refine (late_any s3 g _ hx2).mono ?_
              rintro e w' ⟨rfl, rfl⟩
              go_wp2_with fail
              refine (done_is s3 s3 r x g _ HD.out hx2 hi2).mono ?_
              rintro e w3 ⟨rfl, hx3, ho3⟩
              clear hx2 y0
              go_wp2_with fail
              go_roundw
              case rel => exact ⟨q + 1, D2, T2, s3, by omega, by go_num, rfl, rfl, hO2, by omega, by omega, hx3, hi3, ho2.trans ho3⟩
              case measure => simp [intOf]; omega
          · obtain rfl : q = 1 := by omega
            have b2 : Below w.heap.size w wr := Only.below bq hge bq.size ho2
            have v1 : IntKind.i64.wrap s2.cy = s2.cy := by have := hi2.cy1; have := hi2.cy2; rw [IntKind.wrap_i64]; omega
            have v2 : IntKind.i64.wrap s2.p = s2.p := by have := hi2.p1; have := hi2.p2; have := hi2.ph2; rw [IntKind.wrap_i64]; omega
            have c1 : ∀ w', Below wr.heap.size wr w' → Calls Try.prog 15 #[.pointer (some ⟨g, 0, none⟩)] w' fun e w'' => e = .returned (.int .i64 s2.cy) ∧ Below wr.heap.size wr w'' :=
              fun w' hw' => (cycle_any s2 g w' (hx2.below hw')).mono (fun e w9 ⟨h1, h2⟩ => ⟨h1, h2 ▸ hw'⟩)
            have c2 : ∀ w', Below wr.heap.size wr w' → Calls Try.prog 16 #[.pointer (some ⟨g, 0, none⟩)] w' fun e w'' => e = .returned (.int .i64 s2.p) ∧ Below wr.heap.size wr w'' :=
              fun w' hw' => (phase_any s2 g w' (hx2.below hw')).mono (fun e w9 ⟨h1, h2⟩ => ⟨h1, h2 ▸ hw'⟩)
            have c3 : ∀ w', Below wr.heap.size wr w' → Calls Try.prog 13 #[.pointer (some ⟨g, 0, none⟩)] w' fun e w'' => e = .returned (.bool s2.late) ∧ Below wr.heap.size wr w'' :=
              fun w' hw' => (late_any s2 g w' (hx2.below hw')).mono (fun e w9 ⟨h1, h2⟩ => ⟨h1, h2 ▸ hw'⟩)
            have e5 : (0 : Int) ≤ (D2 : Int) := by omega
            have e6 : (D2 : Int) ≤ 2000000 := by have : k * 3001 ≤ 300 * 3001 := Nat.mul_le_mul_right _ (by omega); omega
            go_wp2_with fail
            refine wp_region_calm (by kernel_rfl) ?_ ?_
            · kernel_rfl
            repeat
              (with_reducible apply wpQuiet_step
               intro K hK
               go_simp
               first
                 | (refine hK _ ?_; clear hK K)
                 | (apply Exists.intro
                    refine ⟨fun w' hw' => ?_, hK _ ?_⟩
                    ·
                      (first
                       | with_reducible exact c1 _ hw'
                       | with_reducible exact c2 _ hw'
                       | with_reducible exact c3 _ hw'
                       | (go_simp
                          first | done | with_reducible exact rfl | with_reducible exact ⟨rfl, rfl⟩ | with_reducible exact c1 _ hw' | with_reducible exact c2 _ hw' | with_reducible exact c3 _ hw'))
                    clear hK K))
            refine wpQuiet_nil ?_
            intro w7 hw7
            have hx7 := hx2.below hw7
            have b7 := below_on b2 hw7
            clear c1 c2 c3 f1 f2 f3 f4 f5 f5n e5 e6 v1 v2
            go_wp2_with fail
            go_roundw
            case rel => exact ⟨k + 1, D2, T2, s2, by omega, by go_num, rfl, rfl, hO2, by omega, by omega, hx7, hi2, b7⟩
            case measure => simp [intOf]; omega
      · skip
        have hm : (ck : Int) % 6 = 4 := by omega
        clear hk6
        go_wp2_with fail
        obtain ⟨wq, rfl⟩ : ∃ wq, wq = wr := ⟨_, rfl⟩
        have bq := hB
        have hx1 := hx
        have hO1 := hO
        have hi1 := hi
        have hpi : IntsAt wq ca cl := hcc.2.2.2.1
        have hpg : ∀ y, ca = some y → cl ≠ [] → y.block ≠ g := fun y hy hne => by have := hcw.2.2.2.2 y hy hne; omega
        have HPL : Hid (cl.length = cn) := Lib.hid hcc.2.1
        clear z0 z1 z2 x1 hx hcc
        clear hB
        go_wp2_with fail
        go_loopw [11, 12, 15] (fun d t j wr => ∃ (q D2 T2 : Nat) (s2 : ESt), q ≤ cn ∧ j = .int .i64 q ∧ d = .int .i64 D2 ∧ t = .int .i64 T2 ∧ Ord N M s2 D2 T2 ∧ D2 ≤ k * 3001 + q ∧ T2 ≤ k + 1 ∧ ExAt wr g s2 ∧ EInv s2 ∧ Only g wq wr) (fun _ _ j _ => cn - (intOf j).toNat)
        case atStart => exact ⟨0, D, T, s, by omega, rfl, rfl, rfl, hO1, by omega, by omega, hx1, hi1, Only.refl _ _⟩
        case round =>
          obtain ⟨q, D2, T2, s2, hq, rfl, rfl, rfl, hO2, hD2, hT2, hx2, hi2, ho2⟩ := hrel
          obtain ⟨f1, f2, f3, f4⟩ := hO2.quo hi2
          have f5 := hO2.late hi2
          have f5n : decide (M < T2) = s2.late := by rw [← f5]; simp
          by_cases hlq : q < cn
          · rcases hpi.only ho2 hpg with hnil | ⟨pb, po, hpa, hpc⟩
            · rw [hnil] at HPL; exact absurd HPL.out (by simp; omega)
            cases hpa
            obtain ⟨x, hx⟩ : ∃ x, cl[q]? = some x := ⟨_, List.getElem?_eq_getElem (by rw [HPL.out]; exact hlq)⟩
            have y0 := hpc q x hx
            have g1 : (0 : Int) ≤ q := by omega
            have g2 : (q : Int) < cn := by omega
            obtain ⟨s3, r, hd⟩ : ∃ s3 r, s2.done x = (s3, r) := ⟨_, _, rfl⟩
            have hi3 : EInv s3 := by have := hi2.done x; rw [hd] at this; exact this
            have HD := Lib.hid hd
            clear hpc hx hd
            by_cases hr : r = 0
            · subst hr
              obtain ⟨n1, n2, hor⟩ := hO2.done hi2 HD.out
              have N1 := Lib.hid n1
              have N2 := Lib.hid n2
              have F5 := Lib.hid f5
              have F2 := Lib.hid f2
              have F4 := Lib.hid f4
              clear n1 n2 f1 f2 f3 f4 f5 f5n
              go_wp2_with fail
              refine (late_any s2 g _ hx2).mono ?_
              rintro e w' ⟨rfl, rfl⟩
              rw [N1.out]
              go_wp2_with fail
              refine (done_is s2 s3 0 x g _ HD.out hx2 hi2).mono ?_
              rintro e w3 ⟨rfl, hx3, ho3⟩
              have z0 : w3.cell? ⟨pb, po + q, none⟩ = some (.int .i64 x) := by
                rw [World.cell?_of_block (w := wr) (ho3.block pb (World.block_lt_of_cell? _ _ y0) (hpg ⟨pb, po, none⟩ rfl (by intro h; rw [h] at HPL; exact absurd HPL.out (by simp; omega))))]
                exact y0
              have e1 : decide ((M : Int) < (T2 : Int)) = false := by rw [F5.out, N1.out]
              have e1n : decide (M < T2) = false := decide_eq_false (by have := of_decide_eq_false e1; omega)
              have e2 : (D2 : Int) % (N : Int) = x := by rw [F2.out, N2.out]
              have e4 : (D2 : Int).tmod (N : Int) = x := by rw [F4.out, N2.out]
              have e7 : IntKind.i64.wrap x = x := by have h := N2.out; have := hi2.p1; have := hi2.p2; have := hi2.ph2; rw [IntKind.wrap_i64]; omega
              have e5 : (0 : Int) ≤ (D2 : Int) := by omega
              have e6 : (D2 : Int) ≤ 2000000 := by have : k * 3001 ≤ 300 * 3001 := Nat.mul_le_mul_right _ (by omega); omega
              clear hx2 y0
              go_wp2_with fail
              go_quiet (fail)
              clear e1 e1n e2 e4 e7
              rcases hor with ⟨t1, t2, hO3⟩ | ⟨t1, t2, hO3⟩
              · go_wp2_with fail
                go_roundw
                case rel => exact ⟨q + 1, D2 + 1, T2, s3, by omega, by go_num, by go_num, rfl, hO3, by omega, by omega, hx3, hi3, (ho2.trans ho3).drewN _⟩
                case measure => simp [intOf]; omega
              · go_wp2_with fail
                go_roundw
                case rel => exact ⟨q + 1, D2 + 1, 0, s3, by omega, by go_num, by go_num, rfl, hO3, by omega, by omega, hx3, hi3, (ho2.trans ho3).drewN _⟩
                case measure => simp [intOf]; omega
            · have hs3 : s3 = s2 := done_err HD.out hr
              subst hs3
              have r0 : (r == 0) = false := by simpa using hr
              have r1 : (r != 0) = true := by simpa using hr
              clear hr f1 f2 f3 f4 f5 f5n
              go_wp2_with fail
              refine (late_any s3 g _ hx2).mono ?_
              rintro e w' ⟨rfl, rfl⟩
              go_wp2_with fail
              refine (done_is s3 s3 r x g _ HD.out hx2 hi2).mono ?_
              rintro e w3 ⟨rfl, hx3, ho3⟩
              clear hx2 y0
              go_wp2_with fail
              go_roundw
              case rel => exact ⟨q + 1, D2, T2, s3, by omega, by go_num, rfl, rfl, hO2, by omega, by omega, hx3, hi3, ho2.trans ho3⟩
              case measure => simp [intOf]; omega
          · obtain rfl : q = cn := by omega
            have b2 : Below w.heap.size w wr := Only.below bq hge bq.size ho2
            have v1 : IntKind.i64.wrap s2.cy = s2.cy := by have := hi2.cy1; have := hi2.cy2; rw [IntKind.wrap_i64]; omega
            have v2 : IntKind.i64.wrap s2.p = s2.p := by have := hi2.p1; have := hi2.p2; have := hi2.ph2; rw [IntKind.wrap_i64]; omega
            have c1 : ∀ w', Below wr.heap.size wr w' → Calls Try.prog 15 #[.pointer (some ⟨g, 0, none⟩)] w' fun e w'' => e = .returned (.int .i64 s2.cy) ∧ Below wr.heap.size wr w'' :=
              fun w' hw' => (cycle_any s2 g w' (hx2.below hw')).mono (fun e w9 ⟨h1, h2⟩ => ⟨h1, h2 ▸ hw'⟩)
            have c2 : ∀ w', Below wr.heap.size wr w' → Calls Try.prog 16 #[.pointer (some ⟨g, 0, none⟩)] w' fun e w'' => e = .returned (.int .i64 s2.p) ∧ Below wr.heap.size wr w'' :=
              fun w' hw' => (phase_any s2 g w' (hx2.below hw')).mono (fun e w9 ⟨h1, h2⟩ => ⟨h1, h2 ▸ hw'⟩)
            have c3 : ∀ w', Below wr.heap.size wr w' → Calls Try.prog 13 #[.pointer (some ⟨g, 0, none⟩)] w' fun e w'' => e = .returned (.bool s2.late) ∧ Below wr.heap.size wr w'' :=
              fun w' hw' => (late_any s2 g w' (hx2.below hw')).mono (fun e w9 ⟨h1, h2⟩ => ⟨h1, h2 ▸ hw'⟩)
            have e5 : (0 : Int) ≤ (D2 : Int) := by omega
            have e6 : (D2 : Int) ≤ 2000000 := by have : k * 3001 ≤ 300 * 3001 := Nat.mul_le_mul_right _ (by omega); omega
            go_wp2_with fail
            refine wp_region_calm (by kernel_rfl) ?_ ?_
            · kernel_rfl
            repeat
              (with_reducible apply wpQuiet_step
               intro K hK
               go_simp
               first
                 | (refine hK _ ?_; clear hK K)
                 | (apply Exists.intro
                    refine ⟨fun w' hw' => ?_, hK _ ?_⟩
                    ·
                      (first
                       | with_reducible exact c1 _ hw'
                       | with_reducible exact c2 _ hw'
                       | with_reducible exact c3 _ hw'
                       | (go_simp
                          first | done | with_reducible exact rfl | with_reducible exact ⟨rfl, rfl⟩ | with_reducible exact c1 _ hw' | with_reducible exact c2 _ hw' | with_reducible exact c3 _ hw'))
                    clear hK K))
            refine wpQuiet_nil ?_
            intro w7 hw7
            have hx7 := hx2.below hw7
            have b7 := below_on b2 hw7
            clear c1 c2 c3 f1 f2 f3 f4 f5 f5n e5 e6 v1 v2
            go_wp2_with fail
            go_roundw
            case rel => exact ⟨k + 1, D2, T2, s2, by omega, by go_num, rfl, rfl, hO2, by omega, by omega, hx7, hi2, b7⟩
            case measure => simp [intOf]; omega
      · skip
        have hm : (ck : Int) % 6 = 5 := by omega
        clear hk6
        cases hlate : s.late with
        | true =>
          obtain ⟨hrs, D', hD1, hD2, hO1⟩ := hO.reset hlate
          obtain ⟨f1, f2, f3, f4⟩ := hO.quo hi
          have hi1 : EInv ⟨s.ph, s.dl, s.cy, 0, 0, false⟩ := by have := hi.reset; rw [hrs] at this; exact this
          have HRS := Lib.hid hrs
          have m1 : (D : Int) - (D : Int) % (N : Int) = (D' : Int) := by rw [f2]; exact hD1
          have m2 : (D : Int) - (D : Int).tmod (N : Int) = (D' : Int) := by rw [f4]; exact hD1
          have e5 : (0 : Int) ≤ (D : Int) := by omega
          have e6 : (D : Int) ≤ 2000000 := by have : k * 3001 ≤ 300 * 3001 := Nat.mul_le_mul_right _ (by omega); omega
          have hD3 : D' ≤ k * 3001 := by omega
          clear hrs hlate f1 f2 f3 f4 hD1
          go_wp2_with fail
          refine (reset_is s _ 0 g _ HRS.out hx).mono ?_
          rintro e wq ⟨rfl, hx1, ho1⟩
          have bq := Only.below hB hge hB.size ho1
          clear z0 z1 z2 x1 hx
          obtain ⟨s1, hs1⟩ : ∃ s1 : ESt, ⟨s.ph, s.dl, s.cy, 0, 0, false⟩ = s1 := ⟨_, rfl⟩
          rw [hs1] at hx1 hO1 hi1
          clear hs1 HRS
          go_wp2_with fail
          clear m1 m2 e5 e6
          clear hB
          go_wp2_with fail
          go_loopw [11, 12, 15] (fun d t j wr => ∃ (q D2 T2 : Nat) (s2 : ESt), q ≤ 0 ∧ j = .int .i64 q ∧ d = .int .i64 D2 ∧ t = .int .i64 T2 ∧ Ord N M s2 D2 T2 ∧ D2 ≤ k * 3001 + q ∧ T2 ≤ k + 1 ∧ ExAt wr g s2 ∧ EInv s2 ∧ Only g wq wr) (fun _ _ j _ => 0 - (intOf j).toNat)
          case atStart => exact ⟨0, D', 0, s1, by omega, rfl, rfl, rfl, hO1, by omega, by omega, hx1, hi1, Only.refl _ _⟩
          case round =>
            obtain ⟨q, D2, T2, s2, hq, rfl, rfl, rfl, hO2, hD2, hT2, hx2, hi2, ho2⟩ := hrel
            obtain ⟨f1, f2, f3, f4⟩ := hO2.quo hi2
            have f5 := hO2.late hi2
            have f5n : decide (M < T2) = s2.late := by rw [← f5]; simp
            by_cases hlq : q < 0
            · exact absurd hlq (by omega)
            · obtain rfl : q = 0 := by omega
              have b2 : Below w.heap.size w wr := Only.below bq hge bq.size ho2
              have v1 : IntKind.i64.wrap s2.cy = s2.cy := by have := hi2.cy1; have := hi2.cy2; rw [IntKind.wrap_i64]; omega
              have v2 : IntKind.i64.wrap s2.p = s2.p := by have := hi2.p1; have := hi2.p2; have := hi2.ph2; rw [IntKind.wrap_i64]; omega
              have c1 : ∀ w', Below wr.heap.size wr w' → Calls Try.prog 15 #[.pointer (some ⟨g, 0, none⟩)] w' fun e w'' => e = .returned (.int .i64 s2.cy) ∧ Below wr.heap.size wr w'' :=
                fun w' hw' => (cycle_any s2 g w' (hx2.below hw')).mono (fun e w9 ⟨h1, h2⟩ => ⟨h1, h2 ▸ hw'⟩)
              have c2 : ∀ w', Below wr.heap.size wr w' → Calls Try.prog 16 #[.pointer (some ⟨g, 0, none⟩)] w' fun e w'' => e = .returned (.int .i64 s2.p) ∧ Below wr.heap.size wr w'' :=
                fun w' hw' => (phase_any s2 g w' (hx2.below hw')).mono (fun e w9 ⟨h1, h2⟩ => ⟨h1, h2 ▸ hw'⟩)
              have c3 : ∀ w', Below wr.heap.size wr w' → Calls Try.prog 13 #[.pointer (some ⟨g, 0, none⟩)] w' fun e w'' => e = .returned (.bool s2.late) ∧ Below wr.heap.size wr w'' :=
                fun w' hw' => (late_any s2 g w' (hx2.below hw')).mono (fun e w9 ⟨h1, h2⟩ => ⟨h1, h2 ▸ hw'⟩)
              have e5 : (0 : Int) ≤ (D2 : Int) := by omega
              have e6 : (D2 : Int) ≤ 2000000 := by have : k * 3001 ≤ 300 * 3001 := Nat.mul_le_mul_right _ (by omega); omega
              go_wp2_with fail
              refine wp_region_calm (by kernel_rfl) ?_ ?_
              · kernel_rfl
              repeat
                (with_reducible apply wpQuiet_step
                 intro K hK
                 go_simp
                 first
                   | (refine hK _ ?_; clear hK K)
                   | (apply Exists.intro
                      refine ⟨fun w' hw' => ?_, hK _ ?_⟩
                      ·
                        (first
                         | with_reducible exact c1 _ hw'
                         | with_reducible exact c2 _ hw'
                         | with_reducible exact c3 _ hw'
                         | (go_simp
                            first | done | with_reducible exact rfl | with_reducible exact ⟨rfl, rfl⟩ | with_reducible exact c1 _ hw' | with_reducible exact c2 _ hw' | with_reducible exact c3 _ hw'))
                      clear hK K))
              refine wpQuiet_nil ?_
              intro w7 hw7
              have hx7 := hx2.below hw7
              have b7 := below_on b2 hw7
              clear c1 c2 c3 f1 f2 f3 f4 f5 f5n e5 e6 v1 v2
              go_wp2_with fail
              go_roundw
              case rel => exact ⟨k + 1, D2, T2, s2, by omega, by go_num, rfl, rfl, hO2, by omega, by omega, hx7, hi2, b7⟩
              case measure => simp [intOf]; omega
        | false =>
          have hrs : Hid (s.reset = (s, 4)) := Lib.hid (by simp [ESt.reset, hlate])
          clear hlate
          go_wp2_with fail
          refine (reset_is s s 4 g _ hrs.out hx).mono ?_
          rintro e wq ⟨rfl, hx1, ho1⟩
          have bq := Only.below hB hge hB.size ho1
          have hO1 := hO
          have hi1 := hi
          clear z0 z1 z2 x1 hx
          clear hB
          go_wp2_with fail
          go_loopw [11, 12, 15] (fun d t j wr => ∃ (q D2 T2 : Nat) (s2 : ESt), q ≤ 0 ∧ j = .int .i64 q ∧ d = .int .i64 D2 ∧ t = .int .i64 T2 ∧ Ord N M s2 D2 T2 ∧ D2 ≤ k * 3001 + q ∧ T2 ≤ k + 1 ∧ ExAt wr g s2 ∧ EInv s2 ∧ Only g wq wr) (fun _ _ j _ => 0 - (intOf j).toNat)
          case atStart => exact ⟨0, D, T, s, by omega, rfl, rfl, rfl, hO1, by omega, by omega, hx1, hi1, Only.refl _ _⟩
          case round =>
            obtain ⟨q, D2, T2, s2, hq, rfl, rfl, rfl, hO2, hD2, hT2, hx2, hi2, ho2⟩ := hrel
            obtain ⟨f1, f2, f3, f4⟩ := hO2.quo hi2
            have f5 := hO2.late hi2
            have f5n : decide (M < T2) = s2.late := by rw [← f5]; simp
            by_cases hlq : q < 0
            · exact absurd hlq (by omega)
            · obtain rfl : q = 0 := by omega
              have b2 : Below w.heap.size w wr := Only.below bq hge bq.size ho2
              have v1 : IntKind.i64.wrap s2.cy = s2.cy := by have := hi2.cy1; have := hi2.cy2; rw [IntKind.wrap_i64]; omega
              have v2 : IntKind.i64.wrap s2.p = s2.p := by have := hi2.p1; have := hi2.p2; have := hi2.ph2; rw [IntKind.wrap_i64]; omega
              have c1 : ∀ w', Below wr.heap.size wr w' → Calls Try.prog 15 #[.pointer (some ⟨g, 0, none⟩)] w' fun e w'' => e = .returned (.int .i64 s2.cy) ∧ Below wr.heap.size wr w'' :=
                fun w' hw' => (cycle_any s2 g w' (hx2.below hw')).mono (fun e w9 ⟨h1, h2⟩ => ⟨h1, h2 ▸ hw'⟩)
              have c2 : ∀ w', Below wr.heap.size wr w' → Calls Try.prog 16 #[.pointer (some ⟨g, 0, none⟩)] w' fun e w'' => e = .returned (.int .i64 s2.p) ∧ Below wr.heap.size wr w'' :=
                fun w' hw' => (phase_any s2 g w' (hx2.below hw')).mono (fun e w9 ⟨h1, h2⟩ => ⟨h1, h2 ▸ hw'⟩)
              have c3 : ∀ w', Below wr.heap.size wr w' → Calls Try.prog 13 #[.pointer (some ⟨g, 0, none⟩)] w' fun e w'' => e = .returned (.bool s2.late) ∧ Below wr.heap.size wr w'' :=
                fun w' hw' => (late_any s2 g w' (hx2.below hw')).mono (fun e w9 ⟨h1, h2⟩ => ⟨h1, h2 ▸ hw'⟩)
              have e5 : (0 : Int) ≤ (D2 : Int) := by omega
              have e6 : (D2 : Int) ≤ 2000000 := by have : k * 3001 ≤ 300 * 3001 := Nat.mul_le_mul_right _ (by omega); omega
              go_wp2_with fail
              refine wp_region_calm (by kernel_rfl) ?_ ?_
              · kernel_rfl
              repeat
                (with_reducible apply wpQuiet_step
                 intro K hK
                 go_simp
                 first
                   | (refine hK _ ?_; clear hK K)
                   | (apply Exists.intro
                      refine ⟨fun w' hw' => ?_, hK _ ?_⟩
                      ·
                        (first
                         | with_reducible exact c1 _ hw'
                         | with_reducible exact c2 _ hw'
                         | with_reducible exact c3 _ hw'
                         | (go_simp
                            first | done | with_reducible exact rfl | with_reducible exact ⟨rfl, rfl⟩ | with_reducible exact c1 _ hw' | with_reducible exact c2 _ hw' | with_reducible exact c3 _ hw'))
                      clear hK K))
              refine wpQuiet_nil ?_
              intro w7 hw7
              have hx7 := hx2.below hw7
              have b7 := below_on b2 hw7
              clear c1 c2 c3 f1 f2 f3 f4 f5 f5n e5 e6 v1 v2
              go_wp2_with fail
              go_roundw
              case rel => exact ⟨k + 1, D2, T2, s2, by omega, by go_num, rfl, rfl, hO2, by omega, by omega, hx7, hi2, b7⟩
              case measure => simp [intOf]; omega
    · obtain rfl : k = n := by omega
      go_wp2_with fail
      refine (works_any _).mono ?_
      rintro e w3 ⟨rfl, hb3⟩
      go_wp2_with fail
      go_ret
      exact ⟨rfl, below_on hB hb3⟩
theorem walk_ExecOrder (a0 a1 : Int) (a2 : Option Addr) (len2 cap2 : Nat) (w : World) (w0 : (Lit.int .u8 a0).wf = true) (w1 : (Lit.int .u8 a1).wf = true) (w2 : Rd Try.prog w 22 [.slice a2 len2 cap2]) :
    Calls Try.prog 4 #[.int .u8 a0, .int .u8 a1, .slice a2 len2 cap2] w fun e w' => e = .returned (.bool true) ∧ Below w.heap.size w w' := by
  obtain ⟨a, rfl, ha⟩ := u8_nat w0
  obtain ⟨b, rfl, hb⟩ := u8_nat w1
  obtain ⟨l, h1, h2, h3⟩ := cls_of w2
  exact order_any a b a2 len2 cap2 l w ha hb h1 h2 h3
end Go.Proofs.Ytaonkcfmlgaobaa
