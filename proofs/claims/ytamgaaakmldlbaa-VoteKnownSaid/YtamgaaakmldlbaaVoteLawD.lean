/-
  The walk of the statement VoteBoth of chapter 12.
-/
import Derived.Test.YtamgaaakmldlbaaVoteBothA
namespace Go.Proofs.Ytamgaaakmldlbaa
open Go.RowKit
attribute [local irreducible] VSt.put VSt.fin VSt.stop VSt.reset VSt.step

theorem Was.drop {l : List (Int × Int × Frm)} {m k : Nat} {ch : Int} {f : Frm} (h : Was l m (k + 1) ch f) : Was (l.drop m) 0 (k + 1 - m) ch f := by
  obtain ⟨j, c, h1, h2, h3, h4⟩ := h
  exact ⟨j - m, c, Nat.zero_le _, by omega, by rw [List.getElem?_drop, show m + (j - m) = j by omega]; exact h3, h4⟩
set_option maxRecDepth 100000 in
set_option maxHeartbeats 20000000 in
theorem both_any (a : Option Addr) (n cap : Nat) (l : List (Int × Int × Frm)) (w : World) (hn : l.length = n) (hm : n ≤ maxLen) (hcap : n ≤ cap) (_hcm : cap ≤ maxLen) (hl : CallsAt w a l) :
    Calls Try.prog 5 #[.slice a n cap] w fun e w' => e = .returned (.bool true) ∧ Below w.heap.size w w' := by
  have hm' : (n : Int) ≤ 9223372036854775807 := by unfold maxLen at hm; omega
  have HN := Lib.hid hn
  clear hn
  by_cases h200 : 200 < n
  · go_enter Try.func5, Try.ntmps5
    go_wp2_with fail
    refine (works_any _).mono ?_
    rintro e w3 ⟨rfl, hb3⟩
    go_wp2_with fail
    go_ret
    exact ⟨rfl, hb3⟩
  clear hm' hm
  go_enter Try.func5, Try.ntmps5
  go_wp2_with fail
  refine (new_any _).mono ?_
  rintro e w1 ⟨g, rfl, hgw, hv1, hb1⟩
  go_wp2_with fail
  go_loopw [4, 5, 6, 7] (fun m4 l5 t6 i wr => ∃ (k m : Nat) (s : VSt), k ≤ n ∧ m ≤ k ∧ i = .int .i64 k ∧ m4 = .int .i64 m ∧ l5 = .int .i64 s.last ∧ t6 = .bool s.stopped ∧ VoteAt wr g s ∧ Below w.heap.size w wr ∧ Inv l m k s) (fun _ _ _ i _ => n - (intOf i).toNat)
  case atStart => exact ⟨0, 0, s0, by omega, by omega, rfl, rfl, rfl, rfl, hv1, hb1, ⟨fun f hf => (by cases hf), fun f hf => (by cases hf), fun f hf => (by cases hf)⟩⟩
  case round =>
    obtain ⟨k, m, s, hk, hm, rfl, rfl, rfl, rfl, hv, hB, hInv⟩ := hrel
    clear hv1 hb1
    by_cases hlt : k < n
    · have hl0 := hl
      rcases hl.below hB with hnil | ⟨b, off, rfl, hcells⟩
      · rw [hnil] at HN; exact absurd HN.out (by simp; omega)
      obtain ⟨c, hc⟩ : ∃ c, l[k]? = some c := ⟨_, List.getElem?_eq_getElem (by rw [HN.out]; exact hlt)⟩
      obtain ⟨z0, z1, z2, z3, z4, z5⟩ := hcells k c hc
      have x1 := World.block_lt_of_cell? _ _ z0
      have d1 : (0 : Int) ≤ k := by omega
      have d2 : (k : Int) < n := by omega
      have d3 : (0 : Int) ≤ m := by omega
      have d4 : (m : Int) ≤ k + 1 := by omega
      have d5 : (k : Int) + 1 ≤ cap := by omega
      have HL1 : Hid (k + 1 - m ≤ (l.drop m).length) := Lib.hid (by rw [List.length_drop, HN.out]; omega)
      have HL2 : Hid (k + 1 - m ≤ 1000) := Lib.hid (by omega)
      have HL3 : Hid (∀ w', Below w.heap.size w w' → CallsAt w' (some ⟨b, off, none⟩) l) := Lib.hid (fun w' hw' => hl0.below hw')
      clear hcells hl hl0
      rcases (show c.1 % 6 < 3 ∨ c.1 % 6 = 3 ∨ c.1 % 6 = 4 ∨ c.1 % 6 = 5 by omega) with hk3 | hk3 | hk3 | hk3
      · obtain ⟨k6, hk6⟩ : ∃ k6, c.1 % 6 = k6 := ⟨_, rfl⟩
        have HK := Lib.hid hk6
        have kk1 : (k6 == 3) = false := by simp; omega
        have kk2 : (k6 == 4) = false := by simp; omega
        have kk3 : (k6 == 5) = false := by simp; omega
        clear hk6
        obtain ⟨hI, hG⟩ := hInv.put hm hc hk3
        obtain ⟨s1, hs1⟩ : ∃ s1, (s.put c.2.1 c.2.2).1 = s1 := ⟨_, rfl⟩
        rw [hs1] at hI hG
        have HS1 := Lib.hid hs1
        have HI := Lib.hid hI
        clear hs1 hInv hc hk3
        rcases hG with ⟨hn1, hl1⟩ | ⟨f, hf, hst, hst1, ⟨e1, e2⟩ | ⟨e1, e2, e3⟩ | ⟨gg, e1, e4, e2, e3⟩⟩
        · skip
          have HS2 := Lib.hid hn1
          have HS5 := Lib.hid hl1
          clear hn1 hl1
          clear hI
          go_wp2_with fail
          refine (pick6_is c.1 k6 _ HK.out).mono ?_
          rintro e w' ⟨rfl, rfl⟩
          go_wp2_with fail
          have hv0 := hv.below (below1 wr (Obj.cells #[Value.int IntKind.i64 c.1, Value.int IntKind.i64 c.2.1, Value.int IntKind.i64 c.2.2.c, Value.int IntKind.i64 c.2.2.e, Value.int IntKind.u64 c.2.2.p, Value.int IntKind.u32 c.2.2.q] 46))
          have kA := heap_new' wr (Obj.cells #[Value.int IntKind.i64 c.1, Value.int IntKind.i64 c.2.1, Value.int IntKind.i64 c.2.2.c, Value.int IntKind.i64 c.2.2.e, Value.int IntKind.u64 c.2.2.p, Value.int IntKind.u32 c.2.2.q] 46)
          have b0 := below_on hB (below1 wr (Obj.cells #[Value.int IntKind.i64 c.1, Value.int IntKind.i64 c.2.1, Value.int IntKind.i64 c.2.2.c, Value.int IntKind.i64 c.2.2.e, Value.int IntKind.u64 c.2.2.p, Value.int IntKind.u32 c.2.2.q] 46))
          refine (shown_any s g _ hv0).mono ?_
          rintro e w3 ⟨rfl, hb3⟩
          have hb3' := below_on hb3 (below1 w3 (Obj.cells #[Value.int IntKind.i64 s.frm.c, Value.int IntKind.i64 s.frm.e, Value.int IntKind.u64 s.frm.p, Value.int IntKind.u32 s.frm.q] 27))
          have kA3 := blk_keep hb3 kA
          have xA := blk_lt kA3
          have kW3 := heap_new' w3 (Obj.cells #[Value.int IntKind.i64 s.frm.c, Value.int IntKind.i64 s.frm.e, Value.int IntKind.u64 s.frm.p, Value.int IntKind.u32 s.frm.q] 27)
          have hv3 := hv0.below hb3'
          have b3 := below_on b0 hb3'
          have nW : w3.heap.size ≠ g := by have := hv0.lt; have := hb3.size; omega
          have eA0 := blk_cell kA3 0 _ rfl
          have eA1 := blk_cell kA3 1 _ rfl
          have eA2 := blk_cell kA3 2 _ rfl
          have eA3 := blk_cell kA3 3 _ rfl
          have eA4 := blk_cell kA3 4 _ rfl
          have eA5 := blk_cell kA3 5 _ rfl
          clear z0 z1 z2 z3 z4 z5 x1 hv hv0 b0
          go_wp2_with fail
          refine (put_any s c.2.1 c.2.2 g _ hv3).mono ?_
          rintro e w4 ⟨rfl, hv4, ho4⟩
          rw [HS1.out] at hv4
          have kW4 := ho4.keep nW kW3
          have b4 := below_only b3 hgw b3.size ho4
          clear eA0 eA1 eA2 eA3 eA4 eA5 xA kA3 kW3 hv3 b3 hb3'
          go_wp2_with fail
          refine (shown_none s1 g _ HS2.out hv4).mono ?_
          rintro e w5 ⟨rfl, hb5⟩
          go_wp2_with fail
          have hb5' := below_on hb5 (below1 w5 (Obj.cells #[Value.int IntKind.i64 0, Value.int IntKind.i64 0, Value.int IntKind.u64 0, Value.int IntKind.u32 0] 27))
          have kW5 := blk_keep hb5' kW4
          have kX5 := heap_new' w5 (Obj.cells #[Value.int IntKind.i64 0, Value.int IntKind.i64 0, Value.int IntKind.u64 0, Value.int IntKind.u32 0] 27)
          have hv5 := hv4.below hb5'
          have b5 := below_on b4 hb5'
          obtain ⟨W, hW⟩ : ∃ W, W = w5.alloc (Obj.cells #[Value.int IntKind.i64 0, Value.int IntKind.i64 0, Value.int IntKind.u64 0, Value.int IntKind.u32 0] 27) := ⟨_, rfl⟩
          rw [← hW] at kW5 kX5 hv5 b5 ⊢
          clear hW hb5 hb5' kW4 hv4 b4
          go_quiet (fail)
          go_wp2_with fail
          refine (stopped_any _ g _ (hv5.below (below_drewN (Below.refl _ _) _))).mono ?_
          rintro e w' ⟨rfl, rfl⟩
          go_wp2_with fail
          all_goals
            refine (stopped_any _ g _ (hv5.below (below_drewN (Below.refl _ _) _))).mono ?_
            rintro e w' ⟨rfl, rfl⟩
            go_wp2_with fail
            go_roundw
            case rel => exact ⟨k + 1, m, s1, by omega, by omega, by go_num, (by first | rfl | trivial), by rw [HS5.out], (by first | rfl | trivial | (simp only [Value.bool.injEq]; exact (by assumption : s1.stopped = _).symm) | simp_all), hv5.below (below_drewN (Below.refl _ _) _), below_on b5 (below_drewN (Below.refl _ _) _), HI.out⟩
            case measure => simp [intOf]; omega
        · skip
          have HS2 := Lib.hid hf
          have HS3 := Lib.hid hst1
          have HSH := Lib.hid e1
          have hw0 := hI.sh f hf
          have HW0 := Lib.hid (hw0.1.drop)
          have HW1 := Lib.hid (hw0.2.1.drop)
          clear hw0
          rw [hst]
          have hgd := frm_guard
          have hne := neq_frm f f
          rw [decide_eq_true rfl] at hne
          have HS5 := Lib.hid e2
          clear e1 e2 hf hst hst1
          clear hI
          go_wp2_with fail
          refine (pick6_is c.1 k6 _ HK.out).mono ?_
          rintro e w' ⟨rfl, rfl⟩
          go_wp2_with fail
          have hv0 := hv.below (below1 wr (Obj.cells #[Value.int IntKind.i64 c.1, Value.int IntKind.i64 c.2.1, Value.int IntKind.i64 c.2.2.c, Value.int IntKind.i64 c.2.2.e, Value.int IntKind.u64 c.2.2.p, Value.int IntKind.u32 c.2.2.q] 46))
          have kA := heap_new' wr (Obj.cells #[Value.int IntKind.i64 c.1, Value.int IntKind.i64 c.2.1, Value.int IntKind.i64 c.2.2.c, Value.int IntKind.i64 c.2.2.e, Value.int IntKind.u64 c.2.2.p, Value.int IntKind.u32 c.2.2.q] 46)
          have b0 := below_on hB (below1 wr (Obj.cells #[Value.int IntKind.i64 c.1, Value.int IntKind.i64 c.2.1, Value.int IntKind.i64 c.2.2.c, Value.int IntKind.i64 c.2.2.e, Value.int IntKind.u64 c.2.2.p, Value.int IntKind.u32 c.2.2.q] 46))
          refine (shown_iF s f g _ HSH.out hv0).mono ?_
          rintro e w3 ⟨rfl, hb3⟩
          have hb3' := below_on hb3 (below1 w3 (Obj.cells #[Value.int IntKind.i64 f.c, Value.int IntKind.i64 f.e, Value.int IntKind.u64 f.p, Value.int IntKind.u32 f.q] 27))
          have kA3 := blk_keep hb3 kA
          have xA := blk_lt kA3
          have kW3 := heap_new' w3 (Obj.cells #[Value.int IntKind.i64 f.c, Value.int IntKind.i64 f.e, Value.int IntKind.u64 f.p, Value.int IntKind.u32 f.q] 27)
          have hv3 := hv0.below hb3'
          have b3 := below_on b0 hb3'
          have nW : w3.heap.size ≠ g := by have := hv0.lt; have := hb3.size; omega
          have eA0 := blk_cell kA3 0 _ rfl
          have eA1 := blk_cell kA3 1 _ rfl
          have eA2 := blk_cell kA3 2 _ rfl
          have eA3 := blk_cell kA3 3 _ rfl
          have eA4 := blk_cell kA3 4 _ rfl
          have eA5 := blk_cell kA3 5 _ rfl
          clear z0 z1 z2 z3 z4 z5 x1 hv hv0 b0
          go_wp2_with fail
          refine (put_any s c.2.1 c.2.2 g _ hv3).mono ?_
          rintro e w4 ⟨rfl, hv4, ho4⟩
          rw [HS1.out] at hv4
          have kW4 := ho4.keep nW kW3
          have b4 := below_only b3 hgw b3.size ho4
          clear eA0 eA1 eA2 eA3 eA4 eA5 xA kA3 kW3 hv3 b3 hb3'
          go_wp2_with fail
          refine (shown_iF s1 f g _ HS2.out hv4).mono ?_
          rintro e w5 ⟨rfl, hb5⟩
          go_wp2_with fail
          have hb5' := below_on hb5 (below1 w5 (Obj.cells #[Value.int IntKind.i64 f.c, Value.int IntKind.i64 f.e, Value.int IntKind.u64 f.p, Value.int IntKind.u32 f.q] 27))
          have kW5 := blk_keep hb5' kW4
          have kX5 := heap_new' w5 (Obj.cells #[Value.int IntKind.i64 f.c, Value.int IntKind.i64 f.e, Value.int IntKind.u64 f.p, Value.int IntKind.u32 f.q] 27)
          have hv5 := hv4.below hb5'
          have b5 := below_on b4 hb5'
          obtain ⟨W, hW⟩ : ∃ W, W = w5.alloc (Obj.cells #[Value.int IntKind.i64 f.c, Value.int IntKind.i64 f.e, Value.int IntKind.u64 f.p, Value.int IntKind.u32 f.q] 27) := ⟨_, rfl⟩
          rw [← hW] at kW5 kX5 hv5 b5 ⊢
          clear hW hb5 hb5' kW4 hv4 b4
          have c1 : ∀ w', Below W.heap.size W w' → Calls Try.prog 20 #[.slice (some ⟨b, off + m * 6, none⟩) (k + 1 - m) (cap - m), .int .i64 0, .agg #[.int .i64 f.c, .int .i64 f.e, .int .u64 f.p, .int .u32 f.q]] w' fun e w'' => e = .returned (.bool true) ∧ Below W.heap.size W w'' :=
            fun w' hw' => (put_true _ _ _ (l.drop m) 0 f w' HL1.out HL2.out ((HL3.out w' (below_on b5 hw')).drop m) HW0.out).mono (fun e w9 ⟨h1, h2⟩ => ⟨h1, below_on hw' h2⟩)
          have c2 : ∀ w', Below W.heap.size W w' → Calls Try.prog 20 #[.slice (some ⟨b, off + m * 6, none⟩) (k + 1 - m) (cap - m), .int .i64 1, .agg #[.int .i64 f.c, .int .i64 f.e, .int .u64 f.p, .int .u32 f.q]] w' fun e w'' => e = .returned (.bool true) ∧ Below W.heap.size W w'' :=
            fun w' hw' => (put_true _ _ _ (l.drop m) 1 f w' HL1.out HL2.out ((HL3.out w' (below_on b5 hw')).drop m) HW1.out).mono (fun e w9 ⟨h1, h2⟩ => ⟨h1, below_on hw' h2⟩)
          have s1 : IntKind.i64.wrap ((k : Int) + 1) = k + 1 := by rw [IntKind.wrap_i64]; omega
          have s2 : (0 : Int) ≤ (k : Int) + 1 := by omega
          have s3 : ((k : Int) + 1).toNat = k + 1 := by omega
          have s4 : ¬ cap = m := by omega
          refine wp_region_calm (by kernel_rfl) ?_ ?_
          · kernel_rfl
          repeat
            (with_reducible apply wpQuiet_step
             intro K hK
             go_simp
             first
               | (with_reducible refine hK _ ?_; clear hK K)
               | (with_reducible refine ⟨_, fun _ _ => rfl, hK _ ?_⟩; clear hK K)
               | (apply Exists.intro
                  refine ⟨fun w' hw' => ?_, hK _ ?_⟩
                  ·
                    (first
                     | with_reducible exact c1 _ hw'
                     | with_reducible exact c2 _ hw'
                     | (have eX0 := blk_cell (blk_keep hw' kX5) 0 _ rfl
                        have eX1 := blk_cell (blk_keep hw' kX5) 1 _ rfl
                        have eX2 := blk_cell (blk_keep hw' kX5) 2 _ rfl
                        have eX3 := blk_cell (blk_keep hw' kX5) 3 _ rfl
                        go_simp
                        first | done | with_reducible exact rfl | with_reducible exact ⟨rfl, rfl⟩ | with_reducible exact c1 _ hw' | with_reducible exact c2 _ hw'))
                  clear hK K))
          refine wpQuiet_nil ?_
          intro w7 hw7
          clear c1 c2 s1 s2 s3 s4
          have hv7 := hv5.below hw7
          have b7 := below_on b5 hw7
          have kX7 := blk_keep hw7 kX5
          have kW7 := blk_keep hw7 kW5
          have eX0 := blk_cell kX7 0 _ rfl
          have eX1 := blk_cell kX7 1 _ rfl
          have eX2 := blk_cell kX7 2 _ rfl
          have eX3 := blk_cell kX7 3 _ rfl
          have eW0 := blk_cell kW7 0 _ rfl
          have eW1 := blk_cell kW7 1 _ rfl
          have eW2 := blk_cell kW7 2 _ rfl
          have eW3 := blk_cell kW7 3 _ rfl
          go_wp2_with fail
          refine (stopped_any _ g _ hv7).mono ?_
          rintro e w' ⟨rfl, rfl⟩
          rw [HS3.out]
          go_wp2_with fail
          refine (stopped_any _ g _ hv7).mono ?_
          rintro e w' ⟨rfl, rfl⟩
          go_wp2_with fail
          go_roundw
          case rel => exact ⟨k + 1, m, s1, by omega, by omega, by go_num, (by first | rfl | trivial), by rw [HS5.out], (by first | rfl | trivial | (simp only [Value.bool.injEq]; exact (by assumption : s1.stopped = _).symm) | simp_all), hv7, b7, HI.out⟩
          case measure => simp [intOf]; omega
        · skip
          have HS2 := Lib.hid hf
          have HS3 := Lib.hid hst1
          have HSH := Lib.hid e1
          have hw0 := hI.sh f hf
          have HW0 := Lib.hid (hw0.1.drop)
          have HW1 := Lib.hid (hw0.2.1.drop)
          clear hw0
          rw [hst]
          have hgd := frm_guard
          have hle : ¬ f.c ≤ s.last := by omega
          have HS5 := Lib.hid e3
          clear e1 e2 e3 hf hst hst1
          clear hI
          go_wp2_with fail
          refine (pick6_is c.1 k6 _ HK.out).mono ?_
          rintro e w' ⟨rfl, rfl⟩
          go_wp2_with fail
          have hv0 := hv.below (below1 wr (Obj.cells #[Value.int IntKind.i64 c.1, Value.int IntKind.i64 c.2.1, Value.int IntKind.i64 c.2.2.c, Value.int IntKind.i64 c.2.2.e, Value.int IntKind.u64 c.2.2.p, Value.int IntKind.u32 c.2.2.q] 46))
          have kA := heap_new' wr (Obj.cells #[Value.int IntKind.i64 c.1, Value.int IntKind.i64 c.2.1, Value.int IntKind.i64 c.2.2.c, Value.int IntKind.i64 c.2.2.e, Value.int IntKind.u64 c.2.2.p, Value.int IntKind.u32 c.2.2.q] 46)
          have b0 := below_on hB (below1 wr (Obj.cells #[Value.int IntKind.i64 c.1, Value.int IntKind.i64 c.2.1, Value.int IntKind.i64 c.2.2.c, Value.int IntKind.i64 c.2.2.e, Value.int IntKind.u64 c.2.2.p, Value.int IntKind.u32 c.2.2.q] 46))
          refine (shown_none s g _ HSH.out hv0).mono ?_
          rintro e w3 ⟨rfl, hb3⟩
          have hb3' := below_on hb3 (below1 w3 (Obj.cells #[Value.int IntKind.i64 0, Value.int IntKind.i64 0, Value.int IntKind.u64 0, Value.int IntKind.u32 0] 27))
          have kA3 := blk_keep hb3 kA
          have xA := blk_lt kA3
          have kW3 := heap_new' w3 (Obj.cells #[Value.int IntKind.i64 0, Value.int IntKind.i64 0, Value.int IntKind.u64 0, Value.int IntKind.u32 0] 27)
          have hv3 := hv0.below hb3'
          have b3 := below_on b0 hb3'
          have nW : w3.heap.size ≠ g := by have := hv0.lt; have := hb3.size; omega
          have eA0 := blk_cell kA3 0 _ rfl
          have eA1 := blk_cell kA3 1 _ rfl
          have eA2 := blk_cell kA3 2 _ rfl
          have eA3 := blk_cell kA3 3 _ rfl
          have eA4 := blk_cell kA3 4 _ rfl
          have eA5 := blk_cell kA3 5 _ rfl
          clear z0 z1 z2 z3 z4 z5 x1 hv hv0 b0
          go_wp2_with fail
          refine (put_any s c.2.1 c.2.2 g _ hv3).mono ?_
          rintro e w4 ⟨rfl, hv4, ho4⟩
          rw [HS1.out] at hv4
          have kW4 := ho4.keep nW kW3
          have b4 := below_only b3 hgw b3.size ho4
          clear eA0 eA1 eA2 eA3 eA4 eA5 xA kA3 kW3 hv3 b3 hb3'
          go_wp2_with fail
          refine (shown_iF s1 f g _ HS2.out hv4).mono ?_
          rintro e w5 ⟨rfl, hb5⟩
          go_wp2_with fail
          have hb5' := below_on hb5 (below1 w5 (Obj.cells #[Value.int IntKind.i64 f.c, Value.int IntKind.i64 f.e, Value.int IntKind.u64 f.p, Value.int IntKind.u32 f.q] 27))
          have kW5 := blk_keep hb5' kW4
          have kX5 := heap_new' w5 (Obj.cells #[Value.int IntKind.i64 f.c, Value.int IntKind.i64 f.e, Value.int IntKind.u64 f.p, Value.int IntKind.u32 f.q] 27)
          have hv5 := hv4.below hb5'
          have b5 := below_on b4 hb5'
          obtain ⟨W, hW⟩ : ∃ W, W = w5.alloc (Obj.cells #[Value.int IntKind.i64 f.c, Value.int IntKind.i64 f.e, Value.int IntKind.u64 f.p, Value.int IntKind.u32 f.q] 27) := ⟨_, rfl⟩
          rw [← hW] at kW5 kX5 hv5 b5 ⊢
          clear hW hb5 hb5' kW4 hv4 b4
          have c1 : ∀ w', Below W.heap.size W w' → Calls Try.prog 20 #[.slice (some ⟨b, off + m * 6, none⟩) (k + 1 - m) (cap - m), .int .i64 0, .agg #[.int .i64 f.c, .int .i64 f.e, .int .u64 f.p, .int .u32 f.q]] w' fun e w'' => e = .returned (.bool true) ∧ Below W.heap.size W w'' :=
            fun w' hw' => (put_true _ _ _ (l.drop m) 0 f w' HL1.out HL2.out ((HL3.out w' (below_on b5 hw')).drop m) HW0.out).mono (fun e w9 ⟨h1, h2⟩ => ⟨h1, below_on hw' h2⟩)
          have c2 : ∀ w', Below W.heap.size W w' → Calls Try.prog 20 #[.slice (some ⟨b, off + m * 6, none⟩) (k + 1 - m) (cap - m), .int .i64 1, .agg #[.int .i64 f.c, .int .i64 f.e, .int .u64 f.p, .int .u32 f.q]] w' fun e w'' => e = .returned (.bool true) ∧ Below W.heap.size W w'' :=
            fun w' hw' => (put_true _ _ _ (l.drop m) 1 f w' HL1.out HL2.out ((HL3.out w' (below_on b5 hw')).drop m) HW1.out).mono (fun e w9 ⟨h1, h2⟩ => ⟨h1, below_on hw' h2⟩)
          have s1 : IntKind.i64.wrap ((k : Int) + 1) = k + 1 := by rw [IntKind.wrap_i64]; omega
          have s2 : (0 : Int) ≤ (k : Int) + 1 := by omega
          have s3 : ((k : Int) + 1).toNat = k + 1 := by omega
          have s4 : ¬ cap = m := by omega
          refine wp_region_calm (by kernel_rfl) ?_ ?_
          · kernel_rfl
          repeat
            (with_reducible apply wpQuiet_step
             intro K hK
             go_simp
             first
               | (with_reducible refine hK _ ?_; clear hK K)
               | (with_reducible refine ⟨_, fun _ _ => rfl, hK _ ?_⟩; clear hK K)
               | (apply Exists.intro
                  refine ⟨fun w' hw' => ?_, hK _ ?_⟩
                  ·
                    (first
                     | with_reducible exact c1 _ hw'
                     | with_reducible exact c2 _ hw'
                     | (have eX0 := blk_cell (blk_keep hw' kX5) 0 _ rfl
                        have eX1 := blk_cell (blk_keep hw' kX5) 1 _ rfl
                        have eX2 := blk_cell (blk_keep hw' kX5) 2 _ rfl
                        have eX3 := blk_cell (blk_keep hw' kX5) 3 _ rfl
                        go_simp
                        first | done | with_reducible exact rfl | with_reducible exact ⟨rfl, rfl⟩ | with_reducible exact c1 _ hw' | with_reducible exact c2 _ hw'))
                  clear hK K))
          refine wpQuiet_nil ?_
          intro w7 hw7
          clear c1 c2 s1 s2 s3 s4
          have hv7 := hv5.below hw7
          have b7 := below_on b5 hw7
          have kX7 := blk_keep hw7 kX5
          have kW7 := blk_keep hw7 kW5
          have eX0 := blk_cell kX7 0 _ rfl
          have eX1 := blk_cell kX7 1 _ rfl
          have eX2 := blk_cell kX7 2 _ rfl
          have eX3 := blk_cell kX7 3 _ rfl
          go_wp2_with fail
          refine (stopped_any _ g _ hv7).mono ?_
          rintro e w' ⟨rfl, rfl⟩
          rw [HS3.out]
          go_wp2_with fail
          refine (stopped_any _ g _ hv7).mono ?_
          rintro e w' ⟨rfl, rfl⟩
          go_wp2_with fail
          go_roundw
          case rel => exact ⟨k + 1, m, s1, by omega, by omega, by go_num, (by first | rfl | trivial), by rw [HS5.out], (by first | rfl | trivial | (simp only [Value.bool.injEq]; exact (by assumption : s1.stopped = _).symm) | simp_all), hv7, b7, HI.out⟩
          case measure => simp [intOf]; omega
        · skip
          have HS2 := Lib.hid hf
          have HS3 := Lib.hid hst1
          have HSH := Lib.hid e1
          have hw0 := hI.sh f hf
          have HW0 := Lib.hid (hw0.1.drop)
          have HW1 := Lib.hid (hw0.2.1.drop)
          clear hw0
          rw [hst]
          have hgd := frm_guard
          have hne := neq_frm f gg
          rw [decide_eq_false e4] at hne
          have hle : ¬ f.c ≤ s.last := by omega
          have HS5 := Lib.hid e3
          clear e1 e2 e3 e4 hf hst hst1
          clear hI
          go_wp2_with fail
          refine (pick6_is c.1 k6 _ HK.out).mono ?_
          rintro e w' ⟨rfl, rfl⟩
          go_wp2_with fail
          have hv0 := hv.below (below1 wr (Obj.cells #[Value.int IntKind.i64 c.1, Value.int IntKind.i64 c.2.1, Value.int IntKind.i64 c.2.2.c, Value.int IntKind.i64 c.2.2.e, Value.int IntKind.u64 c.2.2.p, Value.int IntKind.u32 c.2.2.q] 46))
          have kA := heap_new' wr (Obj.cells #[Value.int IntKind.i64 c.1, Value.int IntKind.i64 c.2.1, Value.int IntKind.i64 c.2.2.c, Value.int IntKind.i64 c.2.2.e, Value.int IntKind.u64 c.2.2.p, Value.int IntKind.u32 c.2.2.q] 46)
          have b0 := below_on hB (below1 wr (Obj.cells #[Value.int IntKind.i64 c.1, Value.int IntKind.i64 c.2.1, Value.int IntKind.i64 c.2.2.c, Value.int IntKind.i64 c.2.2.e, Value.int IntKind.u64 c.2.2.p, Value.int IntKind.u32 c.2.2.q] 46))
          refine (shown_iF s gg g _ HSH.out hv0).mono ?_
          rintro e w3 ⟨rfl, hb3⟩
          have hb3' := below_on hb3 (below1 w3 (Obj.cells #[Value.int IntKind.i64 gg.c, Value.int IntKind.i64 gg.e, Value.int IntKind.u64 gg.p, Value.int IntKind.u32 gg.q] 27))
          have kA3 := blk_keep hb3 kA
          have xA := blk_lt kA3
          have kW3 := heap_new' w3 (Obj.cells #[Value.int IntKind.i64 gg.c, Value.int IntKind.i64 gg.e, Value.int IntKind.u64 gg.p, Value.int IntKind.u32 gg.q] 27)
          have hv3 := hv0.below hb3'
          have b3 := below_on b0 hb3'
          have nW : w3.heap.size ≠ g := by have := hv0.lt; have := hb3.size; omega
          have eA0 := blk_cell kA3 0 _ rfl
          have eA1 := blk_cell kA3 1 _ rfl
          have eA2 := blk_cell kA3 2 _ rfl
          have eA3 := blk_cell kA3 3 _ rfl
          have eA4 := blk_cell kA3 4 _ rfl
          have eA5 := blk_cell kA3 5 _ rfl
          clear z0 z1 z2 z3 z4 z5 x1 hv hv0 b0
          go_wp2_with fail
          refine (put_any s c.2.1 c.2.2 g _ hv3).mono ?_
          rintro e w4 ⟨rfl, hv4, ho4⟩
          rw [HS1.out] at hv4
          have kW4 := ho4.keep nW kW3
          have b4 := below_only b3 hgw b3.size ho4
          clear eA0 eA1 eA2 eA3 eA4 eA5 xA kA3 kW3 hv3 b3 hb3'
          go_wp2_with fail
          refine (shown_iF s1 f g _ HS2.out hv4).mono ?_
          rintro e w5 ⟨rfl, hb5⟩
          go_wp2_with fail
          have hb5' := below_on hb5 (below1 w5 (Obj.cells #[Value.int IntKind.i64 f.c, Value.int IntKind.i64 f.e, Value.int IntKind.u64 f.p, Value.int IntKind.u32 f.q] 27))
          have kW5 := blk_keep hb5' kW4
          have kX5 := heap_new' w5 (Obj.cells #[Value.int IntKind.i64 f.c, Value.int IntKind.i64 f.e, Value.int IntKind.u64 f.p, Value.int IntKind.u32 f.q] 27)
          have hv5 := hv4.below hb5'
          have b5 := below_on b4 hb5'
          obtain ⟨W, hW⟩ : ∃ W, W = w5.alloc (Obj.cells #[Value.int IntKind.i64 f.c, Value.int IntKind.i64 f.e, Value.int IntKind.u64 f.p, Value.int IntKind.u32 f.q] 27) := ⟨_, rfl⟩
          rw [← hW] at kW5 kX5 hv5 b5 ⊢
          clear hW hb5 hb5' kW4 hv4 b4
          have c1 : ∀ w', Below W.heap.size W w' → Calls Try.prog 20 #[.slice (some ⟨b, off + m * 6, none⟩) (k + 1 - m) (cap - m), .int .i64 0, .agg #[.int .i64 f.c, .int .i64 f.e, .int .u64 f.p, .int .u32 f.q]] w' fun e w'' => e = .returned (.bool true) ∧ Below W.heap.size W w'' :=
            fun w' hw' => (put_true _ _ _ (l.drop m) 0 f w' HL1.out HL2.out ((HL3.out w' (below_on b5 hw')).drop m) HW0.out).mono (fun e w9 ⟨h1, h2⟩ => ⟨h1, below_on hw' h2⟩)
          have c2 : ∀ w', Below W.heap.size W w' → Calls Try.prog 20 #[.slice (some ⟨b, off + m * 6, none⟩) (k + 1 - m) (cap - m), .int .i64 1, .agg #[.int .i64 f.c, .int .i64 f.e, .int .u64 f.p, .int .u32 f.q]] w' fun e w'' => e = .returned (.bool true) ∧ Below W.heap.size W w'' :=
            fun w' hw' => (put_true _ _ _ (l.drop m) 1 f w' HL1.out HL2.out ((HL3.out w' (below_on b5 hw')).drop m) HW1.out).mono (fun e w9 ⟨h1, h2⟩ => ⟨h1, below_on hw' h2⟩)
          have s1 : IntKind.i64.wrap ((k : Int) + 1) = k + 1 := by rw [IntKind.wrap_i64]; omega
          have s2 : (0 : Int) ≤ (k : Int) + 1 := by omega
          have s3 : ((k : Int) + 1).toNat = k + 1 := by omega
          have s4 : ¬ cap = m := by omega
          refine wp_region_calm (by kernel_rfl) ?_ ?_
          · kernel_rfl
          repeat
            (with_reducible apply wpQuiet_step
             intro K hK
             go_simp
             first
               | (with_reducible refine hK _ ?_; clear hK K)
               | (with_reducible refine ⟨_, fun _ _ => rfl, hK _ ?_⟩; clear hK K)
               | (apply Exists.intro
                  refine ⟨fun w' hw' => ?_, hK _ ?_⟩
                  ·
                    (first
                     | with_reducible exact c1 _ hw'
                     | with_reducible exact c2 _ hw'
                     | (have eX0 := blk_cell (blk_keep hw' kX5) 0 _ rfl
                        have eX1 := blk_cell (blk_keep hw' kX5) 1 _ rfl
                        have eX2 := blk_cell (blk_keep hw' kX5) 2 _ rfl
                        have eX3 := blk_cell (blk_keep hw' kX5) 3 _ rfl
                        go_simp
                        first | done | with_reducible exact rfl | with_reducible exact ⟨rfl, rfl⟩ | with_reducible exact c1 _ hw' | with_reducible exact c2 _ hw'))
                  clear hK K))
          refine wpQuiet_nil ?_
          intro w7 hw7
          clear c1 c2 s1 s2 s3 s4
          have hv7 := hv5.below hw7
          have b7 := below_on b5 hw7
          have kX7 := blk_keep hw7 kX5
          have kW7 := blk_keep hw7 kW5
          have eX0 := blk_cell kX7 0 _ rfl
          have eX1 := blk_cell kX7 1 _ rfl
          have eX2 := blk_cell kX7 2 _ rfl
          have eX3 := blk_cell kX7 3 _ rfl
          have eW0 := blk_cell kW7 0 _ rfl
          have eW1 := blk_cell kW7 1 _ rfl
          have eW2 := blk_cell kW7 2 _ rfl
          have eW3 := blk_cell kW7 3 _ rfl
          go_wp2_with fail
          refine (stopped_any _ g _ hv7).mono ?_
          rintro e w' ⟨rfl, rfl⟩
          rw [HS3.out]
          go_wp2_with fail
          refine (stopped_any _ g _ hv7).mono ?_
          rintro e w' ⟨rfl, rfl⟩
          go_wp2_with fail
          go_roundw
          case rel => exact ⟨k + 1, m, s1, by omega, by omega, by go_num, (by first | rfl | trivial), by rw [HS5.out], (by first | rfl | trivial | (simp only [Value.bool.injEq]; exact (by assumption : s1.stopped = _).symm) | simp_all), hv7, b7, HI.out⟩
          case measure => simp [intOf]; omega
      · have HK := Lib.hid hk3
        clear hk3
        obtain ⟨hI, hG⟩ := hInv.fin
        obtain ⟨s1, hs1⟩ : ∃ s1, s.fin.1 = s1 := ⟨_, rfl⟩
        rw [hs1] at hI hG
        have HS1 := Lib.hid hs1
        have HI := Lib.hid hI
        clear hs1 hInv hc
        rcases hG with ⟨hn1, hl1⟩ | ⟨f, hf, hst, hst1, ⟨e1, e2⟩ | ⟨e1, e2, e3⟩ | ⟨gg, e1, e4, e2, e3⟩⟩
        · skip
          have HS2 := Lib.hid hn1
          have HS5 := Lib.hid hl1
          clear hn1 hl1
          clear hI
          go_wp2_with fail
          refine (pick6_is c.1 3 _ HK.out).mono ?_
          rintro e w' ⟨rfl, rfl⟩
          go_wp2_with fail
          have hv0 := hv.below (below1 wr (Obj.cells #[Value.int IntKind.i64 c.1, Value.int IntKind.i64 c.2.1, Value.int IntKind.i64 c.2.2.c, Value.int IntKind.i64 c.2.2.e, Value.int IntKind.u64 c.2.2.p, Value.int IntKind.u32 c.2.2.q] 46))
          have kA := heap_new' wr (Obj.cells #[Value.int IntKind.i64 c.1, Value.int IntKind.i64 c.2.1, Value.int IntKind.i64 c.2.2.c, Value.int IntKind.i64 c.2.2.e, Value.int IntKind.u64 c.2.2.p, Value.int IntKind.u32 c.2.2.q] 46)
          have b0 := below_on hB (below1 wr (Obj.cells #[Value.int IntKind.i64 c.1, Value.int IntKind.i64 c.2.1, Value.int IntKind.i64 c.2.2.c, Value.int IntKind.i64 c.2.2.e, Value.int IntKind.u64 c.2.2.p, Value.int IntKind.u32 c.2.2.q] 46))
          refine (shown_any s g _ hv0).mono ?_
          rintro e w3 ⟨rfl, hb3⟩
          have hb3' := below_on hb3 (below1 w3 (Obj.cells #[Value.int IntKind.i64 s.frm.c, Value.int IntKind.i64 s.frm.e, Value.int IntKind.u64 s.frm.p, Value.int IntKind.u32 s.frm.q] 27))
          have kA3 := blk_keep hb3 kA
          have xA := blk_lt kA3
          have kW3 := heap_new' w3 (Obj.cells #[Value.int IntKind.i64 s.frm.c, Value.int IntKind.i64 s.frm.e, Value.int IntKind.u64 s.frm.p, Value.int IntKind.u32 s.frm.q] 27)
          have hv3 := hv0.below hb3'
          have b3 := below_on b0 hb3'
          have nW : w3.heap.size ≠ g := by have := hv0.lt; have := hb3.size; omega
          have eA0 := blk_cell kA3 0 _ rfl
          have eA1 := blk_cell kA3 1 _ rfl
          have eA2 := blk_cell kA3 2 _ rfl
          have eA3 := blk_cell kA3 3 _ rfl
          have eA4 := blk_cell kA3 4 _ rfl
          have eA5 := blk_cell kA3 5 _ rfl
          clear z0 z1 z2 z3 z4 z5 x1 hv hv0 b0
          go_wp2_with fail
          refine (end_any s g _ hv3).mono ?_
          rintro e w4 ⟨rfl, hv4, ho4⟩
          rw [HS1.out] at hv4
          have kW4 := ho4.keep nW kW3
          have b4 := below_only b3 hgw b3.size ho4
          clear eA0 eA1 eA2 eA3 eA4 eA5 xA kA3 kW3 hv3 b3 hb3'
          go_wp2_with fail
          refine (shown_none s1 g _ HS2.out hv4).mono ?_
          rintro e w5 ⟨rfl, hb5⟩
          go_wp2_with fail
          have hb5' := below_on hb5 (below1 w5 (Obj.cells #[Value.int IntKind.i64 0, Value.int IntKind.i64 0, Value.int IntKind.u64 0, Value.int IntKind.u32 0] 27))
          have kW5 := blk_keep hb5' kW4
          have kX5 := heap_new' w5 (Obj.cells #[Value.int IntKind.i64 0, Value.int IntKind.i64 0, Value.int IntKind.u64 0, Value.int IntKind.u32 0] 27)
          have hv5 := hv4.below hb5'
          have b5 := below_on b4 hb5'
          obtain ⟨W, hW⟩ : ∃ W, W = w5.alloc (Obj.cells #[Value.int IntKind.i64 0, Value.int IntKind.i64 0, Value.int IntKind.u64 0, Value.int IntKind.u32 0] 27) := ⟨_, rfl⟩
          rw [← hW] at kW5 kX5 hv5 b5 ⊢
          clear hW hb5 hb5' kW4 hv4 b4
          go_quiet (fail)
          go_wp2_with fail
          refine (stopped_any _ g _ (hv5.below (below_drewN (Below.refl _ _) _))).mono ?_
          rintro e w' ⟨rfl, rfl⟩
          go_wp2_with fail
          all_goals
            refine (stopped_any _ g _ (hv5.below (below_drewN (Below.refl _ _) _))).mono ?_
            rintro e w' ⟨rfl, rfl⟩
            go_wp2_with fail
            go_roundw
            case rel => exact ⟨k + 1, m, s1, by omega, by omega, by go_num, (by first | rfl | trivial), by rw [HS5.out], (by first | rfl | trivial | (simp only [Value.bool.injEq]; exact (by assumption : s1.stopped = _).symm) | simp_all), hv5.below (below_drewN (Below.refl _ _) _), below_on b5 (below_drewN (Below.refl _ _) _), HI.out⟩
            case measure => simp [intOf]; omega
        · skip
          have HS2 := Lib.hid hf
          have HS3 := Lib.hid hst1
          have HSH := Lib.hid e1
          have hw0 := hI.sh f hf
          have HW0 := Lib.hid (hw0.1.drop)
          have HW1 := Lib.hid (hw0.2.1.drop)
          clear hw0
          rw [hst]
          have hgd := frm_guard
          have hne := neq_frm f f
          rw [decide_eq_true rfl] at hne
          have HS5 := Lib.hid e2
          clear e1 e2 hf hst hst1
          clear hI
          go_wp2_with fail
          refine (pick6_is c.1 3 _ HK.out).mono ?_
          rintro e w' ⟨rfl, rfl⟩
          go_wp2_with fail
          have hv0 := hv.below (below1 wr (Obj.cells #[Value.int IntKind.i64 c.1, Value.int IntKind.i64 c.2.1, Value.int IntKind.i64 c.2.2.c, Value.int IntKind.i64 c.2.2.e, Value.int IntKind.u64 c.2.2.p, Value.int IntKind.u32 c.2.2.q] 46))
          have kA := heap_new' wr (Obj.cells #[Value.int IntKind.i64 c.1, Value.int IntKind.i64 c.2.1, Value.int IntKind.i64 c.2.2.c, Value.int IntKind.i64 c.2.2.e, Value.int IntKind.u64 c.2.2.p, Value.int IntKind.u32 c.2.2.q] 46)
          have b0 := below_on hB (below1 wr (Obj.cells #[Value.int IntKind.i64 c.1, Value.int IntKind.i64 c.2.1, Value.int IntKind.i64 c.2.2.c, Value.int IntKind.i64 c.2.2.e, Value.int IntKind.u64 c.2.2.p, Value.int IntKind.u32 c.2.2.q] 46))
          refine (shown_iF s f g _ HSH.out hv0).mono ?_
          rintro e w3 ⟨rfl, hb3⟩
          have hb3' := below_on hb3 (below1 w3 (Obj.cells #[Value.int IntKind.i64 f.c, Value.int IntKind.i64 f.e, Value.int IntKind.u64 f.p, Value.int IntKind.u32 f.q] 27))
          have kA3 := blk_keep hb3 kA
          have xA := blk_lt kA3
          have kW3 := heap_new' w3 (Obj.cells #[Value.int IntKind.i64 f.c, Value.int IntKind.i64 f.e, Value.int IntKind.u64 f.p, Value.int IntKind.u32 f.q] 27)
          have hv3 := hv0.below hb3'
          have b3 := below_on b0 hb3'
          have nW : w3.heap.size ≠ g := by have := hv0.lt; have := hb3.size; omega
          have eA0 := blk_cell kA3 0 _ rfl
          have eA1 := blk_cell kA3 1 _ rfl
          have eA2 := blk_cell kA3 2 _ rfl
          have eA3 := blk_cell kA3 3 _ rfl
          have eA4 := blk_cell kA3 4 _ rfl
          have eA5 := blk_cell kA3 5 _ rfl
          clear z0 z1 z2 z3 z4 z5 x1 hv hv0 b0
          go_wp2_with fail
          refine (end_any s g _ hv3).mono ?_
          rintro e w4 ⟨rfl, hv4, ho4⟩
          rw [HS1.out] at hv4
          have kW4 := ho4.keep nW kW3
          have b4 := below_only b3 hgw b3.size ho4
          clear eA0 eA1 eA2 eA3 eA4 eA5 xA kA3 kW3 hv3 b3 hb3'
          go_wp2_with fail
          refine (shown_iF s1 f g _ HS2.out hv4).mono ?_
          rintro e w5 ⟨rfl, hb5⟩
          go_wp2_with fail
          have hb5' := below_on hb5 (below1 w5 (Obj.cells #[Value.int IntKind.i64 f.c, Value.int IntKind.i64 f.e, Value.int IntKind.u64 f.p, Value.int IntKind.u32 f.q] 27))
          have kW5 := blk_keep hb5' kW4
          have kX5 := heap_new' w5 (Obj.cells #[Value.int IntKind.i64 f.c, Value.int IntKind.i64 f.e, Value.int IntKind.u64 f.p, Value.int IntKind.u32 f.q] 27)
          have hv5 := hv4.below hb5'
          have b5 := below_on b4 hb5'
          obtain ⟨W, hW⟩ : ∃ W, W = w5.alloc (Obj.cells #[Value.int IntKind.i64 f.c, Value.int IntKind.i64 f.e, Value.int IntKind.u64 f.p, Value.int IntKind.u32 f.q] 27) := ⟨_, rfl⟩
          rw [← hW] at kW5 kX5 hv5 b5 ⊢
          clear hW hb5 hb5' kW4 hv4 b4
          have c1 : ∀ w', Below W.heap.size W w' → Calls Try.prog 20 #[.slice (some ⟨b, off + m * 6, none⟩) (k + 1 - m) (cap - m), .int .i64 0, .agg #[.int .i64 f.c, .int .i64 f.e, .int .u64 f.p, .int .u32 f.q]] w' fun e w'' => e = .returned (.bool true) ∧ Below W.heap.size W w'' :=
            fun w' hw' => (put_true _ _ _ (l.drop m) 0 f w' HL1.out HL2.out ((HL3.out w' (below_on b5 hw')).drop m) HW0.out).mono (fun e w9 ⟨h1, h2⟩ => ⟨h1, below_on hw' h2⟩)
          have c2 : ∀ w', Below W.heap.size W w' → Calls Try.prog 20 #[.slice (some ⟨b, off + m * 6, none⟩) (k + 1 - m) (cap - m), .int .i64 1, .agg #[.int .i64 f.c, .int .i64 f.e, .int .u64 f.p, .int .u32 f.q]] w' fun e w'' => e = .returned (.bool true) ∧ Below W.heap.size W w'' :=
            fun w' hw' => (put_true _ _ _ (l.drop m) 1 f w' HL1.out HL2.out ((HL3.out w' (below_on b5 hw')).drop m) HW1.out).mono (fun e w9 ⟨h1, h2⟩ => ⟨h1, below_on hw' h2⟩)
          have s1 : IntKind.i64.wrap ((k : Int) + 1) = k + 1 := by rw [IntKind.wrap_i64]; omega
          have s2 : (0 : Int) ≤ (k : Int) + 1 := by omega
          have s3 : ((k : Int) + 1).toNat = k + 1 := by omega
          have s4 : ¬ cap = m := by omega
          refine wp_region_calm (by kernel_rfl) ?_ ?_
          · kernel_rfl
          repeat
            (with_reducible apply wpQuiet_step
             intro K hK
             go_simp
             first
               | (with_reducible refine hK _ ?_; clear hK K)
               | (with_reducible refine ⟨_, fun _ _ => rfl, hK _ ?_⟩; clear hK K)
               | (apply Exists.intro
                  refine ⟨fun w' hw' => ?_, hK _ ?_⟩
                  ·
                    (first
                     | with_reducible exact c1 _ hw'
                     | with_reducible exact c2 _ hw'
                     | (have eX0 := blk_cell (blk_keep hw' kX5) 0 _ rfl
                        have eX1 := blk_cell (blk_keep hw' kX5) 1 _ rfl
                        have eX2 := blk_cell (blk_keep hw' kX5) 2 _ rfl
                        have eX3 := blk_cell (blk_keep hw' kX5) 3 _ rfl
                        go_simp
                        first | done | with_reducible exact rfl | with_reducible exact ⟨rfl, rfl⟩ | with_reducible exact c1 _ hw' | with_reducible exact c2 _ hw'))
                  clear hK K))
          refine wpQuiet_nil ?_
          intro w7 hw7
          clear c1 c2 s1 s2 s3 s4
          have hv7 := hv5.below hw7
          have b7 := below_on b5 hw7
          have kX7 := blk_keep hw7 kX5
          have kW7 := blk_keep hw7 kW5
          have eX0 := blk_cell kX7 0 _ rfl
          have eX1 := blk_cell kX7 1 _ rfl
          have eX2 := blk_cell kX7 2 _ rfl
          have eX3 := blk_cell kX7 3 _ rfl
          have eW0 := blk_cell kW7 0 _ rfl
          have eW1 := blk_cell kW7 1 _ rfl
          have eW2 := blk_cell kW7 2 _ rfl
          have eW3 := blk_cell kW7 3 _ rfl
          go_wp2_with fail
          refine (stopped_any _ g _ hv7).mono ?_
          rintro e w' ⟨rfl, rfl⟩
          rw [HS3.out]
          go_wp2_with fail
          refine (stopped_any _ g _ hv7).mono ?_
          rintro e w' ⟨rfl, rfl⟩
          go_wp2_with fail
          go_roundw
          case rel => exact ⟨k + 1, m, s1, by omega, by omega, by go_num, (by first | rfl | trivial), by rw [HS5.out], (by first | rfl | trivial | (simp only [Value.bool.injEq]; exact (by assumption : s1.stopped = _).symm) | simp_all), hv7, b7, HI.out⟩
          case measure => simp [intOf]; omega
        · skip
          have HS2 := Lib.hid hf
          have HS3 := Lib.hid hst1
          have HSH := Lib.hid e1
          have hw0 := hI.sh f hf
          have HW0 := Lib.hid (hw0.1.drop)
          have HW1 := Lib.hid (hw0.2.1.drop)
          clear hw0
          rw [hst]
          have hgd := frm_guard
          have hle : ¬ f.c ≤ s.last := by omega
          have HS5 := Lib.hid e3
          clear e1 e2 e3 hf hst hst1
          clear hI
          go_wp2_with fail
          refine (pick6_is c.1 3 _ HK.out).mono ?_
          rintro e w' ⟨rfl, rfl⟩
          go_wp2_with fail
          have hv0 := hv.below (below1 wr (Obj.cells #[Value.int IntKind.i64 c.1, Value.int IntKind.i64 c.2.1, Value.int IntKind.i64 c.2.2.c, Value.int IntKind.i64 c.2.2.e, Value.int IntKind.u64 c.2.2.p, Value.int IntKind.u32 c.2.2.q] 46))
          have kA := heap_new' wr (Obj.cells #[Value.int IntKind.i64 c.1, Value.int IntKind.i64 c.2.1, Value.int IntKind.i64 c.2.2.c, Value.int IntKind.i64 c.2.2.e, Value.int IntKind.u64 c.2.2.p, Value.int IntKind.u32 c.2.2.q] 46)
          have b0 := below_on hB (below1 wr (Obj.cells #[Value.int IntKind.i64 c.1, Value.int IntKind.i64 c.2.1, Value.int IntKind.i64 c.2.2.c, Value.int IntKind.i64 c.2.2.e, Value.int IntKind.u64 c.2.2.p, Value.int IntKind.u32 c.2.2.q] 46))
          refine (shown_none s g _ HSH.out hv0).mono ?_
          rintro e w3 ⟨rfl, hb3⟩
          have hb3' := below_on hb3 (below1 w3 (Obj.cells #[Value.int IntKind.i64 0, Value.int IntKind.i64 0, Value.int IntKind.u64 0, Value.int IntKind.u32 0] 27))
          have kA3 := blk_keep hb3 kA
          have xA := blk_lt kA3
          have kW3 := heap_new' w3 (Obj.cells #[Value.int IntKind.i64 0, Value.int IntKind.i64 0, Value.int IntKind.u64 0, Value.int IntKind.u32 0] 27)
          have hv3 := hv0.below hb3'
          have b3 := below_on b0 hb3'
          have nW : w3.heap.size ≠ g := by have := hv0.lt; have := hb3.size; omega
          have eA0 := blk_cell kA3 0 _ rfl
          have eA1 := blk_cell kA3 1 _ rfl
          have eA2 := blk_cell kA3 2 _ rfl
          have eA3 := blk_cell kA3 3 _ rfl
          have eA4 := blk_cell kA3 4 _ rfl
          have eA5 := blk_cell kA3 5 _ rfl
          clear z0 z1 z2 z3 z4 z5 x1 hv hv0 b0
          go_wp2_with fail
          refine (end_any s g _ hv3).mono ?_
          rintro e w4 ⟨rfl, hv4, ho4⟩
          rw [HS1.out] at hv4
          have kW4 := ho4.keep nW kW3
          have b4 := below_only b3 hgw b3.size ho4
          clear eA0 eA1 eA2 eA3 eA4 eA5 xA kA3 kW3 hv3 b3 hb3'
          go_wp2_with fail
          refine (shown_iF s1 f g _ HS2.out hv4).mono ?_
          rintro e w5 ⟨rfl, hb5⟩
          go_wp2_with fail
          have hb5' := below_on hb5 (below1 w5 (Obj.cells #[Value.int IntKind.i64 f.c, Value.int IntKind.i64 f.e, Value.int IntKind.u64 f.p, Value.int IntKind.u32 f.q] 27))
          have kW5 := blk_keep hb5' kW4
          have kX5 := heap_new' w5 (Obj.cells #[Value.int IntKind.i64 f.c, Value.int IntKind.i64 f.e, Value.int IntKind.u64 f.p, Value.int IntKind.u32 f.q] 27)
          have hv5 := hv4.below hb5'
          have b5 := below_on b4 hb5'
          obtain ⟨W, hW⟩ : ∃ W, W = w5.alloc (Obj.cells #[Value.int IntKind.i64 f.c, Value.int IntKind.i64 f.e, Value.int IntKind.u64 f.p, Value.int IntKind.u32 f.q] 27) := ⟨_, rfl⟩
          rw [← hW] at kW5 kX5 hv5 b5 ⊢
          clear hW hb5 hb5' kW4 hv4 b4
          have c1 : ∀ w', Below W.heap.size W w' → Calls Try.prog 20 #[.slice (some ⟨b, off + m * 6, none⟩) (k + 1 - m) (cap - m), .int .i64 0, .agg #[.int .i64 f.c, .int .i64 f.e, .int .u64 f.p, .int .u32 f.q]] w' fun e w'' => e = .returned (.bool true) ∧ Below W.heap.size W w'' :=
            fun w' hw' => (put_true _ _ _ (l.drop m) 0 f w' HL1.out HL2.out ((HL3.out w' (below_on b5 hw')).drop m) HW0.out).mono (fun e w9 ⟨h1, h2⟩ => ⟨h1, below_on hw' h2⟩)
          have c2 : ∀ w', Below W.heap.size W w' → Calls Try.prog 20 #[.slice (some ⟨b, off + m * 6, none⟩) (k + 1 - m) (cap - m), .int .i64 1, .agg #[.int .i64 f.c, .int .i64 f.e, .int .u64 f.p, .int .u32 f.q]] w' fun e w'' => e = .returned (.bool true) ∧ Below W.heap.size W w'' :=
            fun w' hw' => (put_true _ _ _ (l.drop m) 1 f w' HL1.out HL2.out ((HL3.out w' (below_on b5 hw')).drop m) HW1.out).mono (fun e w9 ⟨h1, h2⟩ => ⟨h1, below_on hw' h2⟩)
          have s1 : IntKind.i64.wrap ((k : Int) + 1) = k + 1 := by rw [IntKind.wrap_i64]; omega
          have s2 : (0 : Int) ≤ (k : Int) + 1 := by omega
          have s3 : ((k : Int) + 1).toNat = k + 1 := by omega
          have s4 : ¬ cap = m := by omega
          refine wp_region_calm (by kernel_rfl) ?_ ?_
          · kernel_rfl
          repeat
            (with_reducible apply wpQuiet_step
             intro K hK
             go_simp
             first
               | (with_reducible refine hK _ ?_; clear hK K)
               | (with_reducible refine ⟨_, fun _ _ => rfl, hK _ ?_⟩; clear hK K)
               | (apply Exists.intro
                  refine ⟨fun w' hw' => ?_, hK _ ?_⟩
                  ·
                    (first
                     | with_reducible exact c1 _ hw'
                     | with_reducible exact c2 _ hw'
                     | (have eX0 := blk_cell (blk_keep hw' kX5) 0 _ rfl
                        have eX1 := blk_cell (blk_keep hw' kX5) 1 _ rfl
                        have eX2 := blk_cell (blk_keep hw' kX5) 2 _ rfl
                        have eX3 := blk_cell (blk_keep hw' kX5) 3 _ rfl
                        go_simp
                        first | done | with_reducible exact rfl | with_reducible exact ⟨rfl, rfl⟩ | with_reducible exact c1 _ hw' | with_reducible exact c2 _ hw'))
                  clear hK K))
          refine wpQuiet_nil ?_
          intro w7 hw7
          clear c1 c2 s1 s2 s3 s4
          have hv7 := hv5.below hw7
          have b7 := below_on b5 hw7
          have kX7 := blk_keep hw7 kX5
          have kW7 := blk_keep hw7 kW5
          have eX0 := blk_cell kX7 0 _ rfl
          have eX1 := blk_cell kX7 1 _ rfl
          have eX2 := blk_cell kX7 2 _ rfl
          have eX3 := blk_cell kX7 3 _ rfl
          go_wp2_with fail
          refine (stopped_any _ g _ hv7).mono ?_
          rintro e w' ⟨rfl, rfl⟩
          rw [HS3.out]
          go_wp2_with fail
          refine (stopped_any _ g _ hv7).mono ?_
          rintro e w' ⟨rfl, rfl⟩
          go_wp2_with fail
          go_roundw
          case rel => exact ⟨k + 1, m, s1, by omega, by omega, by go_num, (by first | rfl | trivial), by rw [HS5.out], (by first | rfl | trivial | (simp only [Value.bool.injEq]; exact (by assumption : s1.stopped = _).symm) | simp_all), hv7, b7, HI.out⟩
          case measure => simp [intOf]; omega
        · skip
          have HS2 := Lib.hid hf
          have HS3 := Lib.hid hst1
          have HSH := Lib.hid e1
          have hw0 := hI.sh f hf
          have HW0 := Lib.hid (hw0.1.drop)
          have HW1 := Lib.hid (hw0.2.1.drop)
          clear hw0
          rw [hst]
          have hgd := frm_guard
          have hne := neq_frm f gg
          rw [decide_eq_false e4] at hne
          have hle : ¬ f.c ≤ s.last := by omega
          have HS5 := Lib.hid e3
          clear e1 e2 e3 e4 hf hst hst1
          clear hI
          go_wp2_with fail
          refine (pick6_is c.1 3 _ HK.out).mono ?_
          rintro e w' ⟨rfl, rfl⟩
          go_wp2_with fail
          have hv0 := hv.below (below1 wr (Obj.cells #[Value.int IntKind.i64 c.1, Value.int IntKind.i64 c.2.1, Value.int IntKind.i64 c.2.2.c, Value.int IntKind.i64 c.2.2.e, Value.int IntKind.u64 c.2.2.p, Value.int IntKind.u32 c.2.2.q] 46))
          have kA := heap_new' wr (Obj.cells #[Value.int IntKind.i64 c.1, Value.int IntKind.i64 c.2.1, Value.int IntKind.i64 c.2.2.c, Value.int IntKind.i64 c.2.2.e, Value.int IntKind.u64 c.2.2.p, Value.int IntKind.u32 c.2.2.q] 46)
          have b0 := below_on hB (below1 wr (Obj.cells #[Value.int IntKind.i64 c.1, Value.int IntKind.i64 c.2.1, Value.int IntKind.i64 c.2.2.c, Value.int IntKind.i64 c.2.2.e, Value.int IntKind.u64 c.2.2.p, Value.int IntKind.u32 c.2.2.q] 46))
          refine (shown_iF s gg g _ HSH.out hv0).mono ?_
          rintro e w3 ⟨rfl, hb3⟩
          have hb3' := below_on hb3 (below1 w3 (Obj.cells #[Value.int IntKind.i64 gg.c, Value.int IntKind.i64 gg.e, Value.int IntKind.u64 gg.p, Value.int IntKind.u32 gg.q] 27))
          have kA3 := blk_keep hb3 kA
          have xA := blk_lt kA3
          have kW3 := heap_new' w3 (Obj.cells #[Value.int IntKind.i64 gg.c, Value.int IntKind.i64 gg.e, Value.int IntKind.u64 gg.p, Value.int IntKind.u32 gg.q] 27)
          have hv3 := hv0.below hb3'
          have b3 := below_on b0 hb3'
          have nW : w3.heap.size ≠ g := by have := hv0.lt; have := hb3.size; omega
          have eA0 := blk_cell kA3 0 _ rfl
          have eA1 := blk_cell kA3 1 _ rfl
          have eA2 := blk_cell kA3 2 _ rfl
          have eA3 := blk_cell kA3 3 _ rfl
          have eA4 := blk_cell kA3 4 _ rfl
          have eA5 := blk_cell kA3 5 _ rfl
          clear z0 z1 z2 z3 z4 z5 x1 hv hv0 b0
          go_wp2_with fail
          refine (end_any s g _ hv3).mono ?_
          rintro e w4 ⟨rfl, hv4, ho4⟩
          rw [HS1.out] at hv4
          have kW4 := ho4.keep nW kW3
          have b4 := below_only b3 hgw b3.size ho4
          clear eA0 eA1 eA2 eA3 eA4 eA5 xA kA3 kW3 hv3 b3 hb3'
          go_wp2_with fail
          refine (shown_iF s1 f g _ HS2.out hv4).mono ?_
          rintro e w5 ⟨rfl, hb5⟩
          go_wp2_with fail
          have hb5' := below_on hb5 (below1 w5 (Obj.cells #[Value.int IntKind.i64 f.c, Value.int IntKind.i64 f.e, Value.int IntKind.u64 f.p, Value.int IntKind.u32 f.q] 27))
          have kW5 := blk_keep hb5' kW4
          have kX5 := heap_new' w5 (Obj.cells #[Value.int IntKind.i64 f.c, Value.int IntKind.i64 f.e, Value.int IntKind.u64 f.p, Value.int IntKind.u32 f.q] 27)
          have hv5 := hv4.below hb5'
          have b5 := below_on b4 hb5'
          obtain ⟨W, hW⟩ : ∃ W, W = w5.alloc (Obj.cells #[Value.int IntKind.i64 f.c, Value.int IntKind.i64 f.e, Value.int IntKind.u64 f.p, Value.int IntKind.u32 f.q] 27) := ⟨_, rfl⟩
          rw [← hW] at kW5 kX5 hv5 b5 ⊢
          clear hW hb5 hb5' kW4 hv4 b4
          have c1 : ∀ w', Below W.heap.size W w' → Calls Try.prog 20 #[.slice (some ⟨b, off + m * 6, none⟩) (k + 1 - m) (cap - m), .int .i64 0, .agg #[.int .i64 f.c, .int .i64 f.e, .int .u64 f.p, .int .u32 f.q]] w' fun e w'' => e = .returned (.bool true) ∧ Below W.heap.size W w'' :=
            fun w' hw' => (put_true _ _ _ (l.drop m) 0 f w' HL1.out HL2.out ((HL3.out w' (below_on b5 hw')).drop m) HW0.out).mono (fun e w9 ⟨h1, h2⟩ => ⟨h1, below_on hw' h2⟩)
          have c2 : ∀ w', Below W.heap.size W w' → Calls Try.prog 20 #[.slice (some ⟨b, off + m * 6, none⟩) (k + 1 - m) (cap - m), .int .i64 1, .agg #[.int .i64 f.c, .int .i64 f.e, .int .u64 f.p, .int .u32 f.q]] w' fun e w'' => e = .returned (.bool true) ∧ Below W.heap.size W w'' :=
            fun w' hw' => (put_true _ _ _ (l.drop m) 1 f w' HL1.out HL2.out ((HL3.out w' (below_on b5 hw')).drop m) HW1.out).mono (fun e w9 ⟨h1, h2⟩ => ⟨h1, below_on hw' h2⟩)
          have s1 : IntKind.i64.wrap ((k : Int) + 1) = k + 1 := by rw [IntKind.wrap_i64]; omega
          have s2 : (0 : Int) ≤ (k : Int) + 1 := by omega
          have s3 : ((k : Int) + 1).toNat = k + 1 := by omega
          have s4 : ¬ cap = m := by omega
          refine wp_region_calm (by kernel_rfl) ?_ ?_
          · kernel_rfl
          repeat
            (with_reducible apply wpQuiet_step
             intro K hK
             go_simp
             first
               | (with_reducible refine hK _ ?_; clear hK K)
               | (with_reducible refine ⟨_, fun _ _ => rfl, hK _ ?_⟩; clear hK K)
               | (apply Exists.intro
                  refine ⟨fun w' hw' => ?_, hK _ ?_⟩
                  ·
                    (first
                     | with_reducible exact c1 _ hw'
                     | with_reducible exact c2 _ hw'
                     | (have eX0 := blk_cell (blk_keep hw' kX5) 0 _ rfl
                        have eX1 := blk_cell (blk_keep hw' kX5) 1 _ rfl
                        have eX2 := blk_cell (blk_keep hw' kX5) 2 _ rfl
                        have eX3 := blk_cell (blk_keep hw' kX5) 3 _ rfl
                        go_simp
                        first | done | with_reducible exact rfl | with_reducible exact ⟨rfl, rfl⟩ | with_reducible exact c1 _ hw' | with_reducible exact c2 _ hw'))
                  clear hK K))
          refine wpQuiet_nil ?_
          intro w7 hw7
          clear c1 c2 s1 s2 s3 s4
          have hv7 := hv5.below hw7
          have b7 := below_on b5 hw7
          have kX7 := blk_keep hw7 kX5
          have kW7 := blk_keep hw7 kW5
          have eX0 := blk_cell kX7 0 _ rfl
          have eX1 := blk_cell kX7 1 _ rfl
          have eX2 := blk_cell kX7 2 _ rfl
          have eX3 := blk_cell kX7 3 _ rfl
          have eW0 := blk_cell kW7 0 _ rfl
          have eW1 := blk_cell kW7 1 _ rfl
          have eW2 := blk_cell kW7 2 _ rfl
          have eW3 := blk_cell kW7 3 _ rfl
          go_wp2_with fail
          refine (stopped_any _ g _ hv7).mono ?_
          rintro e w' ⟨rfl, rfl⟩
          rw [HS3.out]
          go_wp2_with fail
          refine (stopped_any _ g _ hv7).mono ?_
          rintro e w' ⟨rfl, rfl⟩
          go_wp2_with fail
          go_roundw
          case rel => exact ⟨k + 1, m, s1, by omega, by omega, by go_num, (by first | rfl | trivial), by rw [HS5.out], (by first | rfl | trivial | (simp only [Value.bool.injEq]; exact (by assumption : s1.stopped = _).symm) | simp_all), hv7, b7, HI.out⟩
          case measure => simp [intOf]; omega
      · have HK := Lib.hid hk3
        clear hk3
        obtain ⟨s1, hs1⟩ : ∃ s1, s.reset = s1 := ⟨_, rfl⟩
        have HI := Lib.hid (inv_reset l k (k + 1) s)
        rw [hs1] at HI
        have hn1 : s1.shown = none := by rw [← hs1]; unfold VSt.reset; rfl
        have hl1 : s1.last = s.last := by rw [← hs1]; unfold VSt.reset; rfl
        have HS1 := Lib.hid hs1
        clear hs1 hInv hc
        have HS2 := Lib.hid hn1
        have HS5 := Lib.hid hl1
        clear hn1 hl1
        go_wp2_with fail
        refine (pick6_is c.1 4 _ HK.out).mono ?_
        rintro e w' ⟨rfl, rfl⟩
        go_wp2_with fail
        have hv0 := hv.below (below1 wr (Obj.cells #[Value.int IntKind.i64 c.1, Value.int IntKind.i64 c.2.1, Value.int IntKind.i64 c.2.2.c, Value.int IntKind.i64 c.2.2.e, Value.int IntKind.u64 c.2.2.p, Value.int IntKind.u32 c.2.2.q] 46))
        have kA := heap_new' wr (Obj.cells #[Value.int IntKind.i64 c.1, Value.int IntKind.i64 c.2.1, Value.int IntKind.i64 c.2.2.c, Value.int IntKind.i64 c.2.2.e, Value.int IntKind.u64 c.2.2.p, Value.int IntKind.u32 c.2.2.q] 46)
        have b0 := below_on hB (below1 wr (Obj.cells #[Value.int IntKind.i64 c.1, Value.int IntKind.i64 c.2.1, Value.int IntKind.i64 c.2.2.c, Value.int IntKind.i64 c.2.2.e, Value.int IntKind.u64 c.2.2.p, Value.int IntKind.u32 c.2.2.q] 46))
        refine (shown_any s g _ hv0).mono ?_
        rintro e w3 ⟨rfl, hb3⟩
        have hb3' := below_on hb3 (below1 w3 (Obj.cells #[Value.int IntKind.i64 s.frm.c, Value.int IntKind.i64 s.frm.e, Value.int IntKind.u64 s.frm.p, Value.int IntKind.u32 s.frm.q] 27))
        have kA3 := blk_keep hb3 kA
        have xA := blk_lt kA3
        have kW3 := heap_new' w3 (Obj.cells #[Value.int IntKind.i64 s.frm.c, Value.int IntKind.i64 s.frm.e, Value.int IntKind.u64 s.frm.p, Value.int IntKind.u32 s.frm.q] 27)
        have hv3 := hv0.below hb3'
        have b3 := below_on b0 hb3'
        have nW : w3.heap.size ≠ g := by have := hv0.lt; have := hb3.size; omega
        have eA0 := blk_cell kA3 0 _ rfl
        have eA1 := blk_cell kA3 1 _ rfl
        have eA2 := blk_cell kA3 2 _ rfl
        have eA3 := blk_cell kA3 3 _ rfl
        have eA4 := blk_cell kA3 4 _ rfl
        have eA5 := blk_cell kA3 5 _ rfl
        clear z0 z1 z2 z3 z4 z5 x1 hv hv0 b0
        go_wp2_with fail
        refine (reset_any s g _ hv3).mono ?_
        rintro e w4 ⟨rfl, hv4, ho4⟩
        rw [HS1.out] at hv4
        have kW4 := ho4.keep nW kW3
        have b4 := below_only b3 hgw b3.size ho4
        clear eA0 eA1 eA2 eA3 eA4 eA5 xA kA3 kW3 hv3 b3 hb3'
        go_wp2_with fail
        refine (shown_none s1 g _ HS2.out hv4).mono ?_
        rintro e w5 ⟨rfl, hb5⟩
        go_wp2_with fail
        have hb5' := below_on hb5 (below1 w5 (Obj.cells #[Value.int IntKind.i64 0, Value.int IntKind.i64 0, Value.int IntKind.u64 0, Value.int IntKind.u32 0] 27))
        have kW5 := blk_keep hb5' kW4
        have kX5 := heap_new' w5 (Obj.cells #[Value.int IntKind.i64 0, Value.int IntKind.i64 0, Value.int IntKind.u64 0, Value.int IntKind.u32 0] 27)
        have hv5 := hv4.below hb5'
        have b5 := below_on b4 hb5'
        obtain ⟨W, hW⟩ : ∃ W, W = w5.alloc (Obj.cells #[Value.int IntKind.i64 0, Value.int IntKind.i64 0, Value.int IntKind.u64 0, Value.int IntKind.u32 0] 27) := ⟨_, rfl⟩
        rw [← hW] at kW5 kX5 hv5 b5 ⊢
        clear hW hb5 hb5' kW4 hv4 b4
        go_quiet (fail)
        go_wp2_with fail
        refine (stopped_any _ g _ (hv5.below (below_drewN (Below.refl _ _) _))).mono ?_
        rintro e w' ⟨rfl, rfl⟩
        go_wp2_with fail
        all_goals
          refine (stopped_any _ g _ (hv5.below (below_drewN (Below.refl _ _) _))).mono ?_
          rintro e w' ⟨rfl, rfl⟩
          go_wp2_with fail
          go_roundw
          case rel => exact ⟨k + 1, k, s1, by omega, by omega, by go_num, (by first | rfl | trivial), by rw [HS5.out], (by first | rfl | trivial | (simp only [Value.bool.injEq]; exact (by assumption : s1.stopped = _).symm) | simp_all), hv5.below (below_drewN (Below.refl _ _) _), below_on b5 (below_drewN (Below.refl _ _) _), HI.out⟩
          case measure => simp [intOf]; omega
      · have HK := Lib.hid hk3
        clear hk3
        obtain ⟨s1, hs1⟩ : ∃ s1, s.stop = s1 := ⟨_, rfl⟩
        have HI := Lib.hid (inv_stop l k (k + 1) s)
        rw [hs1] at HI
        have hn1 : s1.shown = none := by rw [← hs1]; unfold VSt.stop; rfl
        have hl1 : s1.last = s.last := by rw [← hs1]; unfold VSt.stop; rfl
        have HS1 := Lib.hid hs1
        clear hs1 hInv hc
        have HS2 := Lib.hid hn1
        have HS5 := Lib.hid hl1
        clear hn1 hl1
        go_wp2_with fail
        refine (pick6_is c.1 5 _ HK.out).mono ?_
        rintro e w' ⟨rfl, rfl⟩
        go_wp2_with fail
        have hv0 := hv.below (below1 wr (Obj.cells #[Value.int IntKind.i64 c.1, Value.int IntKind.i64 c.2.1, Value.int IntKind.i64 c.2.2.c, Value.int IntKind.i64 c.2.2.e, Value.int IntKind.u64 c.2.2.p, Value.int IntKind.u32 c.2.2.q] 46))
        have kA := heap_new' wr (Obj.cells #[Value.int IntKind.i64 c.1, Value.int IntKind.i64 c.2.1, Value.int IntKind.i64 c.2.2.c, Value.int IntKind.i64 c.2.2.e, Value.int IntKind.u64 c.2.2.p, Value.int IntKind.u32 c.2.2.q] 46)
        have b0 := below_on hB (below1 wr (Obj.cells #[Value.int IntKind.i64 c.1, Value.int IntKind.i64 c.2.1, Value.int IntKind.i64 c.2.2.c, Value.int IntKind.i64 c.2.2.e, Value.int IntKind.u64 c.2.2.p, Value.int IntKind.u32 c.2.2.q] 46))
        refine (shown_any s g _ hv0).mono ?_
        rintro e w3 ⟨rfl, hb3⟩
        have hb3' := below_on hb3 (below1 w3 (Obj.cells #[Value.int IntKind.i64 s.frm.c, Value.int IntKind.i64 s.frm.e, Value.int IntKind.u64 s.frm.p, Value.int IntKind.u32 s.frm.q] 27))
        have kA3 := blk_keep hb3 kA
        have xA := blk_lt kA3
        have kW3 := heap_new' w3 (Obj.cells #[Value.int IntKind.i64 s.frm.c, Value.int IntKind.i64 s.frm.e, Value.int IntKind.u64 s.frm.p, Value.int IntKind.u32 s.frm.q] 27)
        have hv3 := hv0.below hb3'
        have b3 := below_on b0 hb3'
        have nW : w3.heap.size ≠ g := by have := hv0.lt; have := hb3.size; omega
        have eA0 := blk_cell kA3 0 _ rfl
        have eA1 := blk_cell kA3 1 _ rfl
        have eA2 := blk_cell kA3 2 _ rfl
        have eA3 := blk_cell kA3 3 _ rfl
        have eA4 := blk_cell kA3 4 _ rfl
        have eA5 := blk_cell kA3 5 _ rfl
        clear z0 z1 z2 z3 z4 z5 x1 hv hv0 b0
        go_wp2_with fail
        refine (stop_any s g _ hv3).mono ?_
        rintro e w4 ⟨rfl, hv4, ho4⟩
        rw [HS1.out] at hv4
        have kW4 := ho4.keep nW kW3
        have b4 := below_only b3 hgw b3.size ho4
        clear eA0 eA1 eA2 eA3 eA4 eA5 xA kA3 kW3 hv3 b3 hb3'
        go_wp2_with fail
        refine (shown_none s1 g _ HS2.out hv4).mono ?_
        rintro e w5 ⟨rfl, hb5⟩
        go_wp2_with fail
        have hb5' := below_on hb5 (below1 w5 (Obj.cells #[Value.int IntKind.i64 0, Value.int IntKind.i64 0, Value.int IntKind.u64 0, Value.int IntKind.u32 0] 27))
        have kW5 := blk_keep hb5' kW4
        have kX5 := heap_new' w5 (Obj.cells #[Value.int IntKind.i64 0, Value.int IntKind.i64 0, Value.int IntKind.u64 0, Value.int IntKind.u32 0] 27)
        have hv5 := hv4.below hb5'
        have b5 := below_on b4 hb5'
        obtain ⟨W, hW⟩ : ∃ W, W = w5.alloc (Obj.cells #[Value.int IntKind.i64 0, Value.int IntKind.i64 0, Value.int IntKind.u64 0, Value.int IntKind.u32 0] 27) := ⟨_, rfl⟩
        rw [← hW] at kW5 kX5 hv5 b5 ⊢
        clear hW hb5 hb5' kW4 hv4 b4
        go_quiet (fail)
        go_wp2_with fail
        refine (stopped_any _ g _ (hv5.below (below_drewN (Below.refl _ _) _))).mono ?_
        rintro e w' ⟨rfl, rfl⟩
        go_wp2_with fail
        all_goals
          refine (stopped_any _ g _ (hv5.below (below_drewN (Below.refl _ _) _))).mono ?_
          rintro e w' ⟨rfl, rfl⟩
          go_wp2_with fail
          go_roundw
          case rel => exact ⟨k + 1, k, s1, by omega, by omega, by go_num, (by first | rfl | trivial), by rw [HS5.out], (by first | rfl | trivial | (simp only [Value.bool.injEq]; exact (by assumption : s1.stopped = _).symm) | simp_all), hv5.below (below_drewN (Below.refl _ _) _), below_on b5 (below_drewN (Below.refl _ _) _), HI.out⟩
          case measure => simp [intOf]; omega
    · obtain rfl : k = n := by omega
      go_wp2_with fail
      refine (last_any s g _ hv).mono ?_
      rintro e w' ⟨rfl, rfl⟩
      go_wp2_with fail
      refine (works_any _).mono ?_
      rintro e w3 ⟨rfl, hb3⟩
      go_wp2_with fail
      go_ret
      exact ⟨rfl, below_on hB hb3⟩
theorem calls_of' {w : World} {a : Option Addr} {len cap : Nat} (h : Rd Try.prog w 37 [.slice a len cap]) : len ≤ cap ∧ cap ≤ maxLen := by
  rcases h.slice Try.underlying37 with h | ⟨x, n, c, h, hlc, hcm, hel⟩
  · simp only [List.cons.injEq, Value.slice.injEq, and_true] at h
    obtain ⟨rfl, rfl, rfl⟩ := h
    exact ⟨Nat.le_refl _, Nat.zero_le _⟩
  · simp only [List.cons.injEq, Value.slice.injEq, and_true] at h
    obtain ⟨rfl, rfl, rfl⟩ := h
    exact ⟨hlc, hcm⟩
theorem walk_VoteBoth (a0 : Option Addr) (len0 cap0 : Nat) (w : World) (w0 : Rd Try.prog w 37 [.slice a0 len0 cap0]) :
    Calls Try.prog 5 #[.slice a0 len0 cap0] w fun e w' => e = .returned (.bool true) ∧ Below w.heap.size w w' := by
  obtain ⟨l, h1, h2, h3⟩ := calls_of w0
  obtain ⟨h4, h5⟩ := calls_of' w0
  exact both_any a0 len0 cap0 l w h1 h2 h4 h5 h3
end Go.Proofs.Ytamgaaakmldlbaa
