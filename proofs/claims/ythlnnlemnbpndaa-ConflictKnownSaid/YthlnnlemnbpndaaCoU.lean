/-
  The statement ConflictKnown: the walk.
-/
import Derived.Test.YthlnnlemnbpndaaCoR
import Derived.Test.YthlnnlemnbpndaaCoS
import Derived.Test.YthlnnlemnbpndaaCoT
import Derived.Test.YthlnnlemnbpndaaCoW
namespace Go.Proofs.Ythlnnlemnbpndaa
open Go.RowKit
set_option maxRecDepth 100000
theorem kn_pair (L : Lay) (w : World) (a c : Int) (V : Value) (hL : LayAt w L) (hV : (Value.agg #[L.se.v, L.po.v, L.sg.v, L.rt.v]) = V) : Calls Try.prog 18 #[V, .int .i64 a, .int .i64 c] w fun e w' => e = .returned (.bool true) ∧ Below w.heap.size w w' := hV ▸ conflictPair_is L a c w hL
theorem kn_apart (L : Lay) (w : World) (a c : Int) (V : Value) (hL : LayAt w L) (hV : (Value.agg #[L.se.v, L.po.v, L.sg.v, L.rt.v]) = V) : Calls Try.prog 5 #[V, .int .i64 a, .int .i64 c] w fun e w' => e = .returned (.bool true) ∧ Below w.heap.size w w' := hV ▸ conflictApart_is L a c w hL
theorem kn_of (L : Lay) (w : World) (a : Int) (V : Value) (hL : LayAt w L) (hV : (Value.agg #[L.se.v, L.po.v, L.sg.v, L.rt.v]) = V) : Calls Try.prog 19 #[V, .int .i64 a] w fun e w' => e = .returned (.bool true) ∧ Below w.heap.size w w' := hV ▸ conflictOf_is L a w hL
theorem kn_table (L : Lay) (w : World) (V : Value) (hL : LayAt w L) (hz : LayZ L) (hV : (Value.agg #[L.se.v, L.po.v, L.sg.v, L.rt.v]) = V) : Calls Try.prog 3 #[V] w fun e w' => e = .returned (.bool true) ∧ Below w.heap.size w w' := hV ▸ conflictTable_is L hz w hL
theorem kn_both (L : Lay) (w : World) (V : Value) (hL : LayAt w L) (hV : (Value.agg #[L.se.v, L.po.v, L.sg.v, L.rt.v]) = V) : Calls Try.prog 4 #[V] w fun e w' => e = .returned (.bool true) ∧ Below w.heap.size w w' := hV ▸ conflictBoth_is L w hL
def emptyL : Lay := ⟨⟨none, 0, []⟩, ⟨none, 0, []⟩, ⟨none, 0, []⟩, ⟨none, 0, []⟩⟩
theorem empty_at (w : World) : LayAt w emptyL := ⟨sl_none, sl_none, sl_none, sl_none, by simp [emptyL], by simp [emptyL], by simp [emptyL], by simp [emptyL]⟩
theorem empty_z : LayZ emptyL := ⟨by simp [emptyL], by simp [emptyL], by simp [emptyL], by simp [emptyL]⟩

set_option maxHeartbeats 20000000 in
theorem walk_ConflictKnown (w : World) : Calls Try.prog 6 #[] w fun e w' => e = .returned (.bool true) ∧ Below w.heap.size w w' := by
  go_enter Try.func6, Try.ntmps6
  go_wp2_with fail
  go_loopg [1, 2, 3, 4, 5] 16 (fun g i _ _ _ _ wr => ∃ k : Nat, k + g = 16 ∧ i = .int .i64 (k : Int) ∧ Below w.heap.size w wr)
  case atStart => exact ⟨0, by omega, rfl, Below.refl _ _⟩
  case round =>
    obtain ⟨k, hk, rfl, hb⟩ := hrel
    have HB := Lib.hid hb
    have HKK := Lib.hid hk
    clear hb
    by_cases hlt : k < 16
    · have d2 : (k : Int) < 16 := by omega
      have E0 : Hid (wrap64 ((k : Int) + 1) = (k : Int) + 1) := Lib.hid (by unfold wrap64; omega)
      have HLT := Lib.hid hlt
      clear hk hlt
      go_wp2_with fail
      refine (yard_is wr).mono ?_
      rintro e wy ⟨b, hbb, rfl, hy, hby⟩
      have HYA := Lib.hid hy
      have HBY := Lib.hid hby
      have HBB := Lib.hid hbb
      have hrow := hy 16 _ rfl
      have z0 : wy.cell? ⟨b + 16, 0, none⟩ = some (.string ⟨#[82, 49]⟩) := blk_cell hrow 0 _ rfl
      have z1 : wy.cell? ⟨b + 16, 1, none⟩ = some (.int .i64 0) := blk_cell hrow 1 _ rfl
      have z2 : wy.cell? ⟨b + 16, 2, none⟩ = some (.slice (some ⟨b + 4, 0, none⟩) 2 2) := blk_cell hrow 2 _ rfl
      have z3 : wy.cell? ⟨b + 16, 3, none⟩ = some (.slice (some ⟨b + 5, 0, none⟩) 2 2) := blk_cell hrow 3 _ rfl
      have z4 : wy.cell? ⟨b + 16, 4, none⟩ = some (.slice (some ⟨b + 6, 0, none⟩) 1 1) := blk_cell hrow 4 _ rfl
      have z5 : wy.cell? ⟨b + 16, 5, none⟩ = some (.slice none 0 0) := blk_cell hrow 5 _ rfl
      have hl16 := blk_lt hrow
      clear hy hby hbb hrow d2
      go_upto_block 2 with fail
      clear z0 z1 z2 z3 z4 z5 hl16
      refine name_any ?_
      intro V hV
      have at_ := allocs_at [.cells #[.slice (some ⟨b + 1, 0, none⟩) 6 6, .slice (some ⟨b + 2, 0, none⟩) 2 2, .slice (some ⟨b + 3, 0, none⟩) 3 3, .slice (some ⟨b + 16, 0, none⟩) 5 5] 27, .cells #[.string ⟨#[82, 49]⟩, .int .i64 0, .slice (some ⟨b + 4, 0, none⟩) 2 2, .slice (some ⟨b + 5, 0, none⟩) 2 2, .slice (some ⟨b + 6, 0, none⟩) 1 1, .slice none 0 0] 44] wy
      have bl_ := allocs_below [.cells #[.slice (some ⟨b + 1, 0, none⟩) 6 6, .slice (some ⟨b + 2, 0, none⟩) 2 2, .slice (some ⟨b + 3, 0, none⟩) 3 3, .slice (some ⟨b + 16, 0, none⟩) 5 5] 27, .cells #[.string ⟨#[82, 49]⟩, .int .i64 0, .slice (some ⟨b + 4, 0, none⟩) 2 2, .slice (some ⟨b + 5, 0, none⟩) 2 2, .slice (some ⟨b + 6, 0, none⟩) 1 1, .slice none 0 0] 44] wy
      rw [show List.foldl World.alloc wy [.cells #[.slice (some ⟨b + 1, 0, none⟩) 6 6, .slice (some ⟨b + 2, 0, none⟩) 2 2, .slice (some ⟨b + 3, 0, none⟩) 3 3, .slice (some ⟨b + 16, 0, none⟩) 5 5] 27, .cells #[.string ⟨#[82, 49]⟩, .int .i64 0, .slice (some ⟨b + 4, 0, none⟩) 2 2, .slice (some ⟨b + 5, 0, none⟩) 2 2, .slice (some ⟨b + 6, 0, none⟩) 1 1, .slice none 0 0] 44] = V by rw [hV]; rfl] at at_ bl_
      have q2 := at_ 0 _ rfl
      have q3 := at_ 1 _ rfl
      rw [Nat.add_zero] at q2
      obtain ⟨g2, hg2⟩ : ∃ g, g = wy.heap.size := ⟨_, rfl⟩
      obtain ⟨g3, hg3⟩ : ∃ g, g = g2 + 1 := ⟨_, rfl⟩
      rw [← hg2] at q2
      rw [← hg2, ← hg3] at q3
      rw [← hg2, ← hg3]
      have hkn : KnJ w V g2 g3 b (yRs b) (yR1 b) := by
        have hy := HYA.out.below bl_
        have hle := yard_le HYA.out
        exact kj_start hy q2 q3 (by omega) (by omega) (by rw [HBB.out]; exact HB.out.size) (below_on (below_on HB.out HBY.out) bl_)
      have HKN := Lib.hid hkn
      have HR16 := Lib.hid ((HYA.out.below bl_) 16 _ rfl)
      have x3 := blk_cell q2 3 _ rfl
      have f1 := blk_free q3 1
      have f2 := blk_free q3 2
      have f3 := blk_free q3 3
      have f4 := blk_free q3 4
      have f5 := blk_free q3 5
      have y1 := blk_cell q3 1 _ rfl
      have y2 := blk_cell q3 2 _ rfl
      have y3 := blk_cell q3 3 _ rfl
      have y4 := blk_cell q3 4 _ rfl
      have y5 := blk_cell q3 5 _ rfl
      have hl3 := blk_lt q3
      have p15 := blk_cell HR16.out 15 _ rfl
      have p23 := blk_cell HR16.out 23 _ rfl
      have e15 := blk_free HR16.out 15
      have e23 := blk_free HR16.out 23
      have hl16 := blk_lt HR16.out
      clear at_ bl_ hV q2 q3 hkn hg2 hg3
      go_cut [15, 16, 17, 18, 19, 20, 21, 22, 23, 24, 25, 26, 27, 28, 29, 30, 31, 32, 33, 34, 35, 36, 37, 38, 39, 40, 41, 42, 43, 44, 45, 46, 47, 48, 49, 50, 51, 52, 53, 54, 55, 56, 57, 58, 59, 60, 61] (fun _s15 _s16 _s17 _s18 _s19 _s20 _s21 _s22 _s23 _s24 _s25 _s26 _s27 _s28 _s29 _s30 _s31 _s32 _s33 _s34 _s35 _s36 _s37 _s38 _s39 _s40 _s41 _s42 _s43 _s44 _s45 _s46 _s47 _s48 _s49 _s50 _s51 _s52 _s53 _s54 _s55 _s56 _s57 _s58 _s59 _s60 _s61 wx => ∃ (Rs : List Rt) (r : Rt), KnJ w wx g2 g3 b Rs r)
      case first =>
        rcases (show k = 0 ∨ k = 1 ∨ k = 2 ∨ k = 3 ∨ k = 4 ∨ k = 5 ∨ k = 6 ∨ k = 7 ∨ 8 ≤ k by omega) with hk7 | hk7 | hk7 | hk7 | hk7 | hk7 | hk7 | hk7 | hk7
        · have t0 : ((k : Int) == 0) = true := eqt (by omega)
          clear hk7
          go_wp2_with fail
          go_meet
          have h := HKN.out
          obtain ⟨V1, hV1⟩ : ∃ W, W = (World.setCell V ⟨g3, 1, none⟩ (.int .i64 2)) := ⟨_, rfl⟩
          have hw : WX (fun x => x = g3 ∨ x = b + 16) V V1 := by rw [hV1]; exact ((WX.refl _ V).trans (WX.set (.inl rfl) 1 (.int .i64 2)))
          have hsz : V1.heap.size = V.heap.size := by rw [hV1]; exact size_set V g3 1 (.int .i64 2)
          have hq : V1.heap[g3]? = some (.cells (rtC ⟨⟨#[82, 49]⟩, 2, ⟨(some ⟨b + 4, 0, none⟩), 2, [1, 2]⟩, ⟨(some ⟨b + 5, 0, none⟩), 2, [(0, false), (1, false)]⟩, ⟨(some ⟨b + 6, 0, none⟩), 1, [3]⟩, ⟨none, 0, []⟩⟩).toArray 44) := by rw [hV1]; exact (blk_set h.rt 1 (.int .i64 2))
          have hrow : V1.heap[b + 16]? = V.heap[b + 16]? := by rw [hV1]; exact (Below.heap_setCell _ _ _ _ (fun e => by have := h.o1; have := h.o2; dsimp only at e; omega))
          rw [← hV1]
          clear hV1
          have hb := Below.refl V1.heap.size V1
          have hs := fun {α : Type} {sz : Nat} {f : α → List Value} {s : Sl α} (g : SlX sz f (XJ b g2 g3) V s) => (g.step (hw.mono (fun x hx => by rcases hx with rfl | rfl; exact .inr (.inr rfl); exact .inl rfl))).step (WX.of_below hb)
          exact ⟨_, ⟨⟨#[82, 49]⟩, 2, ⟨(some ⟨b + 4, 0, none⟩), 2, [1, 2]⟩, ⟨(some ⟨b + 5, 0, none⟩), 2, [(0, false), (1, false)]⟩, ⟨(some ⟨b + 6, 0, none⟩), 1, [3]⟩, ⟨none, 0, []⟩⟩, h.step hw hb (blk_keep hb hq) (by obtain ⟨cs, c1, c2⟩ := h.row; exact ⟨cs, blk_keep hb (hrow.trans c1), c2⟩) h.len ⟨(by show (⟨#[82, 49]⟩ : BA).size ≤ maxLen; decide), (hs h.rx.pa), (hs h.rx.po), (hs h.rx.ov), (hs h.rx.fl)⟩ ⟨zle (Nat.le_of_ble_eq_true rfl), zle (Nat.le_of_ble_eq_true rfl), zle (Nat.le_of_ble_eq_true rfl), zle (Nat.le_of_ble_eq_true rfl), zle (Nat.le_of_ble_eq_true rfl)⟩ (fun x hx => ⟨(h.rs x hx).nm, hs (h.rs x hx).pa, hs (h.rs x hx).po, hs (h.rs x hx).ov, hs (h.rs x hx).fl⟩) h.rz⟩
        · have t0 : ((k : Int) == 0) = false := eqf (by omega)
          have t1 : ((k : Int) == 1) = true := eqt (by omega)
          clear hk7
          go_wp2_with fail
          go_meet
          have h := HKN.out
          obtain ⟨V1, hV1⟩ : ∃ W, W = (World.setCell (World.setCell (World.setCell V ⟨g3, 2, none⟩ (.slice (some ⟨V.heap.size, 0, none⟩) 1 1)) ⟨g3, 4, none⟩ (.slice none 0 0)) ⟨g3, 5, none⟩ (.slice none 0 0)) := ⟨_, rfl⟩
          have hw : WX (fun x => x = g3 ∨ x = b + 16) V V1 := by rw [hV1]; exact ((((WX.refl _ V).trans (WX.set (.inl rfl) 2 (.slice (some ⟨V.heap.size, 0, none⟩) 1 1))).trans (WX.set (.inl rfl) 4 (.slice none 0 0))).trans (WX.set (.inl rfl) 5 (.slice none 0 0)))
          have hsz : V1.heap.size = V.heap.size := by rw [hV1]; exact (size_set _ g3 5 _).trans ((size_set _ g3 4 _).trans (size_set V g3 2 (.slice (some ⟨V.heap.size, 0, none⟩) 1 1)))
          have hq : V1.heap[g3]? = some (.cells (rtC ⟨⟨#[82, 49]⟩, 0, ⟨some ⟨V.heap.size, 0, none⟩, 1, [1]⟩, ⟨(some ⟨b + 5, 0, none⟩), 2, [(0, false), (1, false)]⟩, ⟨none, 0, []⟩, ⟨none, 0, []⟩⟩).toArray 44) := by rw [hV1]; exact (blk_set (blk_set (blk_set h.rt 2 (.slice (some ⟨V.heap.size, 0, none⟩) 1 1)) 4 (.slice none 0 0)) 5 (.slice none 0 0))
          have hrow : V1.heap[b + 16]? = V.heap[b + 16]? := by rw [hV1]; exact (Below.heap_setCell _ _ _ _ (fun e => by have := h.o1; have := h.o2; dsimp only at e; omega)).trans ((Below.heap_setCell _ _ _ _ (fun e => by have := h.o1; have := h.o2; dsimp only at e; omega)).trans ((Below.heap_setCell _ _ _ _ (fun e => by have := h.o1; have := h.o2; dsimp only at e; omega))))
          rw [← hV1]
          clear hV1
          have hb := below1 V1 (.cells #[.int .i64 1] 3)
          have hs := fun {α : Type} {sz : Nat} {f : α → List Value} {s : Sl α} (g : SlX sz f (XJ b g2 g3) V s) => (g.step (hw.mono (fun x hx => by rcases hx with rfl | rfl; exact .inr (.inr rfl); exact .inl rfl))).step (WX.of_below hb)
          exact ⟨_, ⟨⟨#[82, 49]⟩, 0, ⟨some ⟨V.heap.size, 0, none⟩, 1, [1]⟩, ⟨(some ⟨b + 5, 0, none⟩), 2, [(0, false), (1, false)]⟩, ⟨none, 0, []⟩, ⟨none, 0, []⟩⟩, h.step hw hb (blk_keep hb hq) (by obtain ⟨cs, c1, c2⟩ := h.row; exact ⟨cs, blk_keep hb (hrow.trans c1), c2⟩) h.len ⟨(by show (⟨#[82, 49]⟩ : BA).size ≤ maxLen; decide), (kj_new h hsz int_len rfl rfl (by decide)), (hs h.rx.po), SlX.nil, SlX.nil⟩ ⟨zle (Nat.le_of_ble_eq_true rfl), zle (Nat.le_of_ble_eq_true rfl), zle (Nat.le_of_ble_eq_true rfl), zle (Nat.le_of_ble_eq_true rfl), zle (Nat.le_of_ble_eq_true rfl)⟩ (fun x hx => ⟨(h.rs x hx).nm, hs (h.rs x hx).pa, hs (h.rs x hx).po, hs (h.rs x hx).ov, hs (h.rs x hx).fl⟩) h.rz⟩
        · have t0 : ((k : Int) == 0) = false := eqf (by omega)
          have t1 : ((k : Int) == 1) = false := eqf (by omega)
          have t2 : ((k : Int) == 2) = true := eqt (by omega)
          clear hk7
          go_wp2_with fail
          go_meet
          have h := HKN.out
          obtain ⟨V1, hV1⟩ : ∃ W, W = (World.setCell (World.setCell V ⟨g3, 5, none⟩ (.slice (some ⟨V.heap.size, 0, none⟩) 1 1)) ⟨g3, 4, none⟩ (.slice none 0 0)) := ⟨_, rfl⟩
          have hw : WX (fun x => x = g3 ∨ x = b + 16) V V1 := by rw [hV1]; exact (((WX.refl _ V).trans (WX.set (.inl rfl) 5 (.slice (some ⟨V.heap.size, 0, none⟩) 1 1))).trans (WX.set (.inl rfl) 4 (.slice none 0 0)))
          have hsz : V1.heap.size = V.heap.size := by rw [hV1]; exact (size_set _ g3 4 _).trans (size_set V g3 5 (.slice (some ⟨V.heap.size, 0, none⟩) 1 1))
          have hq : V1.heap[g3]? = some (.cells (rtC ⟨⟨#[82, 49]⟩, 0, ⟨(some ⟨b + 4, 0, none⟩), 2, [1, 2]⟩, ⟨(some ⟨b + 5, 0, none⟩), 2, [(0, false), (1, false)]⟩, ⟨none, 0, []⟩, ⟨some ⟨V.heap.size, 0, none⟩, 1, [(1, true)]⟩⟩).toArray 44) := by rw [hV1]; exact (blk_set (blk_set h.rt 5 (.slice (some ⟨V.heap.size, 0, none⟩) 1 1)) 4 (.slice none 0 0))
          have hrow : V1.heap[b + 16]? = V.heap[b + 16]? := by rw [hV1]; exact (Below.heap_setCell _ _ _ _ (fun e => by have := h.o1; have := h.o2; dsimp only at e; omega)).trans ((Below.heap_setCell _ _ _ _ (fun e => by have := h.o1; have := h.o2; dsimp only at e; omega)))
          rw [← hV1]
          clear hV1
          have hb := below1 V1 (.cells #[.int .i64 1, .bool true] 48)
          have hs := fun {α : Type} {sz : Nat} {f : α → List Value} {s : Sl α} (g : SlX sz f (XJ b g2 g3) V s) => (g.step (hw.mono (fun x hx => by rcases hx with rfl | rfl; exact .inr (.inr rfl); exact .inl rfl))).step (WX.of_below hb)
          exact ⟨_, ⟨⟨#[82, 49]⟩, 0, ⟨(some ⟨b + 4, 0, none⟩), 2, [1, 2]⟩, ⟨(some ⟨b + 5, 0, none⟩), 2, [(0, false), (1, false)]⟩, ⟨none, 0, []⟩, ⟨some ⟨V.heap.size, 0, none⟩, 1, [(1, true)]⟩⟩, h.step hw hb (blk_keep hb hq) (by obtain ⟨cs, c1, c2⟩ := h.row; exact ⟨cs, blk_keep hb (hrow.trans c1), c2⟩) h.len ⟨(by show (⟨#[82, 49]⟩ : BA).size ≤ maxLen; decide), (hs h.rx.pa), (hs h.rx.po), SlX.nil, (kj_new h hsz nd_len rfl rfl (by decide))⟩ ⟨zle (Nat.le_of_ble_eq_true rfl), zle (Nat.le_of_ble_eq_true rfl), zle (Nat.le_of_ble_eq_true rfl), zle (Nat.le_of_ble_eq_true rfl), zle (Nat.le_of_ble_eq_true rfl)⟩ (fun x hx => ⟨(h.rs x hx).nm, hs (h.rs x hx).pa, hs (h.rs x hx).po, hs (h.rs x hx).ov, hs (h.rs x hx).fl⟩) h.rz⟩
        · have t0 : ((k : Int) == 0) = false := eqf (by omega)
          have t1 : ((k : Int) == 1) = false := eqf (by omega)
          have t2 : ((k : Int) == 2) = false := eqf (by omega)
          have t3 : ((k : Int) == 3) = true := eqt (by omega)
          clear hk7
          go_wp2_with fail
          go_meet
          have h := HKN.out
          obtain ⟨V1, hV1⟩ : ∃ W, W = (World.setCell V ⟨b + 16, 23, none⟩ (.slice (some ⟨V.heap.size, 0, none⟩) 1 1)) := ⟨_, rfl⟩
          have hw : WX (fun x => x = g3 ∨ x = b + 16) V V1 := by rw [hV1]; exact WX.set (.inr rfl) 23 (.slice (some ⟨V.heap.size, 0, none⟩) 1 1)
          have hsz : V1.heap.size = V.heap.size := by rw [hV1]; exact size_set V (b + 16) 23 (.slice (some ⟨V.heap.size, 0, none⟩) 1 1)
          have hrow : V1.heap[b + 16]? = some (.cells ((yRv b).setIfInBounds 23 (.slice (some ⟨V.heap.size, 0, none⟩) 1 1)) 44) := by rw [hV1]; exact blk_set HR16.out 23 (.slice (some ⟨V.heap.size, 0, none⟩) 1 1)
          have hq : V1.heap[g3]? = V.heap[g3]? := by rw [hV1]; exact Below.heap_setCell _ _ _ _ (fun e => by have := h.o1; have := h.o2; dsimp only at e; omega)
          rw [← hV1]
          clear hV1
          have hb := below1 V1 (.cells #[.int .i64 0, .bool false] 48)
          have hs := fun {α : Type} {sz : Nat} {f : α → List Value} {s : Sl α} (g : SlX sz f (XJ b g2 g3) V s) => (g.step (hw.mono (fun x hx => by rcases hx with rfl | rfl; exact .inr (.inr rfl); exact .inl rfl))).step (WX.of_below hb)
          refine ⟨[yR1 b, yR2 b, yR3 b, { yR4 b with fl := ⟨some ⟨V.heap.size, 0, none⟩, 1, [(0, false)]⟩ }, yR5 b], yR1 b, h.step hw hb (blk_keep hb (hq.trans h.rt)) ⟨_, blk_keep hb hrow, rfl⟩ rfl ⟨h.rx.nm, hs h.rx.pa, hs h.rx.po, hs h.rx.ov, hs h.rx.fl⟩ h.rzr (fun x hx => ?_) (fun x hx => ?_)⟩
          · simp only [List.mem_cons, List.not_mem_nil, or_false] at hx
            rcases hx with rfl | rfl | rfl | rfl | rfl
            · exact ⟨(h.rs (yR1 b) (by simp [yRs])).nm, hs (h.rs (yR1 b) (by simp [yRs])).pa, hs (h.rs (yR1 b) (by simp [yRs])).po, hs (h.rs (yR1 b) (by simp [yRs])).ov, hs (h.rs (yR1 b) (by simp [yRs])).fl⟩
            · exact ⟨(h.rs (yR2 b) (by simp [yRs])).nm, hs (h.rs (yR2 b) (by simp [yRs])).pa, hs (h.rs (yR2 b) (by simp [yRs])).po, hs (h.rs (yR2 b) (by simp [yRs])).ov, hs (h.rs (yR2 b) (by simp [yRs])).fl⟩
            · exact ⟨(h.rs (yR3 b) (by simp [yRs])).nm, hs (h.rs (yR3 b) (by simp [yRs])).pa, hs (h.rs (yR3 b) (by simp [yRs])).po, hs (h.rs (yR3 b) (by simp [yRs])).ov, hs (h.rs (yR3 b) (by simp [yRs])).fl⟩
            · exact ⟨(h.rs (yR4 b) (by simp [yRs])).nm, hs (h.rs (yR4 b) (by simp [yRs])).pa, hs (h.rs (yR4 b) (by simp [yRs])).po, hs (h.rs (yR4 b) (by simp [yRs])).ov, kj_new h hsz nd_len rfl rfl (by decide)⟩
            · exact ⟨(h.rs (yR5 b) (by simp [yRs])).nm, hs (h.rs (yR5 b) (by simp [yRs])).pa, hs (h.rs (yR5 b) (by simp [yRs])).po, hs (h.rs (yR5 b) (by simp [yRs])).ov, hs (h.rs (yR5 b) (by simp [yRs])).fl⟩
          · simp only [List.mem_cons, List.not_mem_nil, or_false] at hx
            rcases hx with rfl | rfl | rfl | rfl | rfl <;> exact ⟨zle (Nat.le_of_ble_eq_true rfl), zle (Nat.le_of_ble_eq_true rfl), zle (Nat.le_of_ble_eq_true rfl), zle (Nat.le_of_ble_eq_true rfl), zle (Nat.le_of_ble_eq_true rfl)⟩
        · have t0 : ((k : Int) == 0) = false := eqf (by omega)
          have t1 : ((k : Int) == 1) = false := eqf (by omega)
          have t2 : ((k : Int) == 2) = false := eqf (by omega)
          have t3 : ((k : Int) == 3) = false := eqf (by omega)
          have t4 : ((k : Int) == 4) = true := eqt (by omega)
          clear hk7
          go_wp2_with fail
          go_meet
          have h := HKN.out
          obtain ⟨V1, hV1⟩ : ∃ W, W = (World.setCell V ⟨b + 16, 23, none⟩ (.slice (some ⟨V.heap.size, 0, none⟩) 1 1)) := ⟨_, rfl⟩
          have hw : WX (fun x => x = g3 ∨ x = b + 16) V V1 := by rw [hV1]; exact WX.set (.inr rfl) 23 (.slice (some ⟨V.heap.size, 0, none⟩) 1 1)
          have hsz : V1.heap.size = V.heap.size := by rw [hV1]; exact size_set V (b + 16) 23 (.slice (some ⟨V.heap.size, 0, none⟩) 1 1)
          have hrow : V1.heap[b + 16]? = some (.cells ((yRv b).setIfInBounds 23 (.slice (some ⟨V.heap.size, 0, none⟩) 1 1)) 44) := by rw [hV1]; exact blk_set HR16.out 23 (.slice (some ⟨V.heap.size, 0, none⟩) 1 1)
          have hq : V1.heap[g3]? = V.heap[g3]? := by rw [hV1]; exact Below.heap_setCell _ _ _ _ (fun e => by have := h.o1; have := h.o2; dsimp only at e; omega)
          rw [← hV1]
          clear hV1
          have hb := below1 V1 (.cells #[.int .i64 0, .bool true] 48)
          have hs := fun {α : Type} {sz : Nat} {f : α → List Value} {s : Sl α} (g : SlX sz f (XJ b g2 g3) V s) => (g.step (hw.mono (fun x hx => by rcases hx with rfl | rfl; exact .inr (.inr rfl); exact .inl rfl))).step (WX.of_below hb)
          refine ⟨[yR1 b, yR2 b, yR3 b, { yR4 b with fl := ⟨some ⟨V.heap.size, 0, none⟩, 1, [(0, true)]⟩ }, yR5 b], yR1 b, h.step hw hb (blk_keep hb (hq.trans h.rt)) ⟨_, blk_keep hb hrow, rfl⟩ rfl ⟨h.rx.nm, hs h.rx.pa, hs h.rx.po, hs h.rx.ov, hs h.rx.fl⟩ h.rzr (fun x hx => ?_) (fun x hx => ?_)⟩
          · simp only [List.mem_cons, List.not_mem_nil, or_false] at hx
            rcases hx with rfl | rfl | rfl | rfl | rfl
            · exact ⟨(h.rs (yR1 b) (by simp [yRs])).nm, hs (h.rs (yR1 b) (by simp [yRs])).pa, hs (h.rs (yR1 b) (by simp [yRs])).po, hs (h.rs (yR1 b) (by simp [yRs])).ov, hs (h.rs (yR1 b) (by simp [yRs])).fl⟩
            · exact ⟨(h.rs (yR2 b) (by simp [yRs])).nm, hs (h.rs (yR2 b) (by simp [yRs])).pa, hs (h.rs (yR2 b) (by simp [yRs])).po, hs (h.rs (yR2 b) (by simp [yRs])).ov, hs (h.rs (yR2 b) (by simp [yRs])).fl⟩
            · exact ⟨(h.rs (yR3 b) (by simp [yRs])).nm, hs (h.rs (yR3 b) (by simp [yRs])).pa, hs (h.rs (yR3 b) (by simp [yRs])).po, hs (h.rs (yR3 b) (by simp [yRs])).ov, hs (h.rs (yR3 b) (by simp [yRs])).fl⟩
            · exact ⟨(h.rs (yR4 b) (by simp [yRs])).nm, hs (h.rs (yR4 b) (by simp [yRs])).pa, hs (h.rs (yR4 b) (by simp [yRs])).po, hs (h.rs (yR4 b) (by simp [yRs])).ov, kj_new h hsz nd_len rfl rfl (by decide)⟩
            · exact ⟨(h.rs (yR5 b) (by simp [yRs])).nm, hs (h.rs (yR5 b) (by simp [yRs])).pa, hs (h.rs (yR5 b) (by simp [yRs])).po, hs (h.rs (yR5 b) (by simp [yRs])).ov, hs (h.rs (yR5 b) (by simp [yRs])).fl⟩
          · simp only [List.mem_cons, List.not_mem_nil, or_false] at hx
            rcases hx with rfl | rfl | rfl | rfl | rfl <;> exact ⟨zle (Nat.le_of_ble_eq_true rfl), zle (Nat.le_of_ble_eq_true rfl), zle (Nat.le_of_ble_eq_true rfl), zle (Nat.le_of_ble_eq_true rfl), zle (Nat.le_of_ble_eq_true rfl)⟩
        · have t0 : ((k : Int) == 0) = false := eqf (by omega)
          have t1 : ((k : Int) == 1) = false := eqf (by omega)
          have t2 : ((k : Int) == 2) = false := eqf (by omega)
          have t3 : ((k : Int) == 3) = false := eqf (by omega)
          have t4 : ((k : Int) == 4) = false := eqf (by omega)
          have t5 : ((k : Int) == 5) = true := eqt (by omega)
          clear hk7
          go_wp2_with fail
          go_meet
          have h := HKN.out
          obtain ⟨V1, hV1⟩ : ∃ W, W = (World.setCell V ⟨b + 16, 15, none⟩ (.slice none 0 0)) := ⟨_, rfl⟩
          have hw : WX (fun x => x = g3 ∨ x = b + 16) V V1 := by rw [hV1]; exact WX.set (.inr rfl) 15 (.slice none 0 0)
          have hsz : V1.heap.size = V.heap.size := by rw [hV1]; exact size_set V (b + 16) 15 (.slice none 0 0)
          have hrow : V1.heap[b + 16]? = some (.cells ((yRv b).setIfInBounds 15 (.slice none 0 0)) 44) := by rw [hV1]; exact blk_set HR16.out 15 (.slice none 0 0)
          have hq : V1.heap[g3]? = V.heap[g3]? := by rw [hV1]; exact Below.heap_setCell _ _ _ _ (fun e => by have := h.o1; have := h.o2; dsimp only at e; omega)
          rw [← hV1]
          clear hV1
          have hb := Below.refl V1.heap.size V1
          have hs := fun {α : Type} {sz : Nat} {f : α → List Value} {s : Sl α} (g : SlX sz f (XJ b g2 g3) V s) => (g.step (hw.mono (fun x hx => by rcases hx with rfl | rfl; exact .inr (.inr rfl); exact .inl rfl))).step (WX.of_below hb)
          refine ⟨[yR1 b, yR2 b, { yR3 b with po := ⟨none, 0, []⟩ }, yR4 b, yR5 b], yR1 b, h.step hw hb (blk_keep hb (hq.trans h.rt)) ⟨_, blk_keep hb hrow, rfl⟩ rfl ⟨h.rx.nm, hs h.rx.pa, hs h.rx.po, hs h.rx.ov, hs h.rx.fl⟩ h.rzr (fun x hx => ?_) (fun x hx => ?_)⟩
          · simp only [List.mem_cons, List.not_mem_nil, or_false] at hx
            rcases hx with rfl | rfl | rfl | rfl | rfl
            · exact ⟨(h.rs (yR1 b) (by simp [yRs])).nm, hs (h.rs (yR1 b) (by simp [yRs])).pa, hs (h.rs (yR1 b) (by simp [yRs])).po, hs (h.rs (yR1 b) (by simp [yRs])).ov, hs (h.rs (yR1 b) (by simp [yRs])).fl⟩
            · exact ⟨(h.rs (yR2 b) (by simp [yRs])).nm, hs (h.rs (yR2 b) (by simp [yRs])).pa, hs (h.rs (yR2 b) (by simp [yRs])).po, hs (h.rs (yR2 b) (by simp [yRs])).ov, hs (h.rs (yR2 b) (by simp [yRs])).fl⟩
            · exact ⟨(h.rs (yR3 b) (by simp [yRs])).nm, hs (h.rs (yR3 b) (by simp [yRs])).pa, SlX.nil, hs (h.rs (yR3 b) (by simp [yRs])).ov, hs (h.rs (yR3 b) (by simp [yRs])).fl⟩
            · exact ⟨(h.rs (yR4 b) (by simp [yRs])).nm, hs (h.rs (yR4 b) (by simp [yRs])).pa, hs (h.rs (yR4 b) (by simp [yRs])).po, hs (h.rs (yR4 b) (by simp [yRs])).ov, hs (h.rs (yR4 b) (by simp [yRs])).fl⟩
            · exact ⟨(h.rs (yR5 b) (by simp [yRs])).nm, hs (h.rs (yR5 b) (by simp [yRs])).pa, hs (h.rs (yR5 b) (by simp [yRs])).po, hs (h.rs (yR5 b) (by simp [yRs])).ov, hs (h.rs (yR5 b) (by simp [yRs])).fl⟩
          · simp only [List.mem_cons, List.not_mem_nil, or_false] at hx
            rcases hx with rfl | rfl | rfl | rfl | rfl <;> exact ⟨zle (Nat.le_of_ble_eq_true rfl), zle (Nat.le_of_ble_eq_true rfl), zle (Nat.le_of_ble_eq_true rfl), zle (Nat.le_of_ble_eq_true rfl), zle (Nat.le_of_ble_eq_true rfl)⟩
        · have t0 : ((k : Int) == 0) = false := eqf (by omega)
          have t1 : ((k : Int) == 1) = false := eqf (by omega)
          have t2 : ((k : Int) == 2) = false := eqf (by omega)
          have t3 : ((k : Int) == 3) = false := eqf (by omega)
          have t4 : ((k : Int) == 4) = false := eqf (by omega)
          have t5 : ((k : Int) == 5) = false := eqf (by omega)
          have t6 : ((k : Int) == 6) = true := eqt (by omega)
          clear hk7
          go_wp2_with fail
          go_meet
          have h := HKN.out
          obtain ⟨V1, hV1⟩ : ∃ W, W = (World.setCell V ⟨g3, 3, none⟩ (.slice (some ⟨V.heap.size, 0, none⟩) 2 2)) := ⟨_, rfl⟩
          have hw : WX (fun x => x = g3 ∨ x = b + 16) V V1 := by rw [hV1]; exact ((WX.refl _ V).trans (WX.set (.inl rfl) 3 (.slice (some ⟨V.heap.size, 0, none⟩) 2 2)))
          have hsz : V1.heap.size = V.heap.size := by rw [hV1]; exact size_set V g3 3 (.slice (some ⟨V.heap.size, 0, none⟩) 2 2)
          have hq : V1.heap[g3]? = some (.cells (rtC ⟨⟨#[82, 49]⟩, 0, ⟨(some ⟨b + 4, 0, none⟩), 2, [1, 2]⟩, ⟨some ⟨V.heap.size, 0, none⟩, 2, [(0, false), (0, true)]⟩, ⟨(some ⟨b + 6, 0, none⟩), 1, [3]⟩, ⟨none, 0, []⟩⟩).toArray 44) := by rw [hV1]; exact (blk_set h.rt 3 (.slice (some ⟨V.heap.size, 0, none⟩) 2 2))
          have hrow : V1.heap[b + 16]? = V.heap[b + 16]? := by rw [hV1]; exact (Below.heap_setCell _ _ _ _ (fun e => by have := h.o1; have := h.o2; dsimp only at e; omega))
          rw [← hV1]
          clear hV1
          have hb := below1 V1 (.cells #[.int .i64 0, .bool false, .int .i64 0, .bool true] 48)
          have hs := fun {α : Type} {sz : Nat} {f : α → List Value} {s : Sl α} (g : SlX sz f (XJ b g2 g3) V s) => (g.step (hw.mono (fun x hx => by rcases hx with rfl | rfl; exact .inr (.inr rfl); exact .inl rfl))).step (WX.of_below hb)
          exact ⟨_, ⟨⟨#[82, 49]⟩, 0, ⟨(some ⟨b + 4, 0, none⟩), 2, [1, 2]⟩, ⟨some ⟨V.heap.size, 0, none⟩, 2, [(0, false), (0, true)]⟩, ⟨(some ⟨b + 6, 0, none⟩), 1, [3]⟩, ⟨none, 0, []⟩⟩, h.step hw hb (blk_keep hb hq) (by obtain ⟨cs, c1, c2⟩ := h.row; exact ⟨cs, blk_keep hb (hrow.trans c1), c2⟩) h.len ⟨(by show (⟨#[82, 49]⟩ : BA).size ≤ maxLen; decide), (hs h.rx.pa), (kj_new h hsz nd_len rfl rfl (by decide)), (hs h.rx.ov), (hs h.rx.fl)⟩ ⟨zle (Nat.le_of_ble_eq_true rfl), zle (Nat.le_of_ble_eq_true rfl), zle (Nat.le_of_ble_eq_true rfl), zle (Nat.le_of_ble_eq_true rfl), zle (Nat.le_of_ble_eq_true rfl)⟩ (fun x hx => ⟨(h.rs x hx).nm, hs (h.rs x hx).pa, hs (h.rs x hx).po, hs (h.rs x hx).ov, hs (h.rs x hx).fl⟩) h.rz⟩
        · have t0 : ((k : Int) == 0) = false := eqf (by omega)
          have t1 : ((k : Int) == 1) = false := eqf (by omega)
          have t2 : ((k : Int) == 2) = false := eqf (by omega)
          have t3 : ((k : Int) == 3) = false := eqf (by omega)
          have t4 : ((k : Int) == 4) = false := eqf (by omega)
          have t5 : ((k : Int) == 5) = false := eqf (by omega)
          have t6 : ((k : Int) == 6) = false := eqf (by omega)
          have t7 : ((k : Int) == 7) = true := eqt (by omega)
          clear hk7
          go_wp2_with fail
          go_meet
          have h := HKN.out
          obtain ⟨V1, hV1⟩ : ∃ W, W = (World.setCell V ⟨g3, 1, none⟩ (.int .i64 7)) := ⟨_, rfl⟩
          have hw : WX (fun x => x = g3 ∨ x = b + 16) V V1 := by rw [hV1]; exact ((WX.refl _ V).trans (WX.set (.inl rfl) 1 (.int .i64 7)))
          have hsz : V1.heap.size = V.heap.size := by rw [hV1]; exact size_set V g3 1 (.int .i64 7)
          have hq : V1.heap[g3]? = some (.cells (rtC ⟨⟨#[82, 49]⟩, 7, ⟨(some ⟨b + 4, 0, none⟩), 2, [1, 2]⟩, ⟨(some ⟨b + 5, 0, none⟩), 2, [(0, false), (1, false)]⟩, ⟨(some ⟨b + 6, 0, none⟩), 1, [3]⟩, ⟨none, 0, []⟩⟩).toArray 44) := by rw [hV1]; exact (blk_set h.rt 1 (.int .i64 7))
          have hrow : V1.heap[b + 16]? = V.heap[b + 16]? := by rw [hV1]; exact (Below.heap_setCell _ _ _ _ (fun e => by have := h.o1; have := h.o2; dsimp only at e; omega))
          rw [← hV1]
          clear hV1
          have hb := Below.refl V1.heap.size V1
          have hs := fun {α : Type} {sz : Nat} {f : α → List Value} {s : Sl α} (g : SlX sz f (XJ b g2 g3) V s) => (g.step (hw.mono (fun x hx => by rcases hx with rfl | rfl; exact .inr (.inr rfl); exact .inl rfl))).step (WX.of_below hb)
          exact ⟨_, ⟨⟨#[82, 49]⟩, 7, ⟨(some ⟨b + 4, 0, none⟩), 2, [1, 2]⟩, ⟨(some ⟨b + 5, 0, none⟩), 2, [(0, false), (1, false)]⟩, ⟨(some ⟨b + 6, 0, none⟩), 1, [3]⟩, ⟨none, 0, []⟩⟩, h.step hw hb (blk_keep hb hq) (by obtain ⟨cs, c1, c2⟩ := h.row; exact ⟨cs, blk_keep hb (hrow.trans c1), c2⟩) h.len ⟨(by show (⟨#[82, 49]⟩ : BA).size ≤ maxLen; decide), (hs h.rx.pa), (hs h.rx.po), (hs h.rx.ov), (hs h.rx.fl)⟩ ⟨zle (Nat.le_of_ble_eq_true rfl), zle (Nat.le_of_ble_eq_true rfl), zle (Nat.le_of_ble_eq_true rfl), zle (Nat.le_of_ble_eq_true rfl), zle (Nat.le_of_ble_eq_true rfl)⟩ (fun x hx => ⟨(h.rs x hx).nm, hs (h.rs x hx).pa, hs (h.rs x hx).po, hs (h.rs x hx).ov, hs (h.rs x hx).fl⟩) h.rz⟩
        · have t0 : ((k : Int) == 0) = false := eqf (by omega)
          have t1 : ((k : Int) == 1) = false := eqf (by omega)
          have t2 : ((k : Int) == 2) = false := eqf (by omega)
          have t3 : ((k : Int) == 3) = false := eqf (by omega)
          have t4 : ((k : Int) == 4) = false := eqf (by omega)
          have t5 : ((k : Int) == 5) = false := eqf (by omega)
          have t6 : ((k : Int) == 6) = false := eqf (by omega)
          have t7 : ((k : Int) == 7) = false := eqf (by omega)
          clear hk7
          go_wp2_with fail
          go_meet
          have h := HKN.out
          exact ⟨_, _, h⟩
      case rest =>
        obtain ⟨Rs, r, hK⟩ := hcut
        clear x3 f1 f2 f3 f4 f5 y1 y2 y3 y4 y5 hl3 p15 p23 e15 e23 hl16 HKN HR16
        obtain ⟨nm, sg, ⟨a1, c1, l1⟩, ⟨a2, c2, l2⟩, ⟨a3, c3, l3⟩, ⟨a4, c4, l4⟩⟩ := r
        obtain ⟨m1, hm1⟩ : ∃ n, l1.length = n := ⟨_, rfl⟩
        obtain ⟨m2, hm2⟩ : ∃ n, l2.length = n := ⟨_, rfl⟩
        obtain ⟨m3, hm3⟩ : ∃ n, l3.length = n := ⟨_, rfl⟩
        obtain ⟨m4, hm4⟩ : ∃ n, l4.length = n := ⟨_, rfl⟩
        have q3 := hK.rt
        dsimp only [rtC] at q3
        rw [slv2 hm1, slv2 hm2, slv2 hm3, slv2 hm4] at q3
        obtain ⟨cs, qr, hcs⟩ := hK.row
        have hsz := kj_cells hK.len hcs
        have HMM := Lib.hid (And.intro hm1 (And.intro hm2 (And.intro hm3 hm4)))
        have HK := Lib.hid hK
        have HQR := Lib.hid qr
        have HCS := Lib.hid hcs
        have x3 := blk_cell hK.lay 3 _ rfl
        have y0 := blk_cell q3 0 _ rfl
        have y1 := blk_cell q3 1 _ rfl
        have y2 := blk_cell q3 2 _ rfl
        have y3 := blk_cell q3 3 _ rfl
        have y4 := blk_cell q3 4 _ rfl
        have y5 := blk_cell q3 5 _ rfl
        have z0 := blk_some qr (i := 0) (by omega)
        have z1 := blk_some qr (i := 1) (by omega)
        have z2 := blk_some qr (i := 2) (by omega)
        have z3 := blk_some qr (i := 3) (by omega)
        have z4 := blk_some qr (i := 4) (by omega)
        have z5 := blk_some qr (i := 5) (by omega)
        obtain ⟨o0, z0⟩ := z0
        obtain ⟨o1, z1⟩ := z1
        obtain ⟨o2, z2⟩ := z2
        obtain ⟨o3, z3⟩ := z3
        obtain ⟨o4, z4⟩ := z4
        obtain ⟨o5, z5⟩ := z5
        have f0 := blk_free qr 0
        have f1 := blk_free qr 1
        have f2 := blk_free qr 2
        have f3 := blk_free qr 3
        have f4 := blk_free qr 4
        have f5 := blk_free qr 5
        clear hK q3 qr hm1 hm2 hm3 hm4 hcs hsz
        go_upto_region 27 with fail
        clear x3 y0 y1 y2 y3 y4 y5 z0 z1 z2 z3 z4 z5 f0 f1 f2 f3 f4 f5
        refine name_any ?_
        intro W2 hW2
        have ho : Only (b + 16) wc W2 := by rw [hW2]; exact only_set (only_set (only_set (only_set (only_set (only_set (Only.refl (b + 16) wc) 0 _) 1 _) 2 _) 3 _) 4 _) 5 _
        have hqq : W2.heap[b + 16]? = some (.cells ((((((cs.setIfInBounds 0 (.string nm)).setIfInBounds 1 (.int .i64 sg)).setIfInBounds 2 (.slice a1 m1 c1)).setIfInBounds 3 (.slice a2 m2 c2)).setIfInBounds 4 (.slice a3 m3 c3)).setIfInBounds 5 (.slice a4 m4 c4)) 44) := by rw [hW2]; exact blk_set (blk_set (blk_set (blk_set (blk_set (blk_set HQR.out 0 _) 1 _) 2 _) 3 _) 4 _) 5 _
        obtain ⟨u1, u2, u3, u4⟩ := HMM.out
        obtain ⟨hL, hz, ql, hbw⟩ := HK.out.fin ho ⟨_, hqq, kj_row nm sg a1 a2 a3 a4 c1 c2 c3 c4 m1 m2 m3 m4 l1 l3 l2 l4 u1 u2 u3 u4 HK.out.len HCS.out⟩
        have hLV := kj_v b ((⟨nm, sg, ⟨a1, c1, l1⟩, ⟨a2, c2, l2⟩, ⟨a3, c3, l3⟩, ⟨a4, c4, l4⟩⟩ : Rt) :: Rs.tail) (by rw [List.length_cons, List.length_tail, HK.out.len])
        have KP : Hid (∀ W, Below W2.heap.size W2 W → ∀ a c : Int, Calls Try.prog 18 #[.agg #[.slice (some ⟨b + 1, 0, none⟩) 6 6, .slice (some ⟨b + 2, 0, none⟩) 2 2, .slice (some ⟨b + 3, 0, none⟩) 3 3, .slice (some ⟨b + 16, 0, none⟩) 5 5], .int .i64 a, .int .i64 c] W fun e w' => e = .returned (.bool true) ∧ Below W.heap.size W w') := Lib.hid (fun W hW a c => kn_pair _ W a c _ (hL.below hW) hLV)
        have KA : Hid (∀ W, Below W2.heap.size W2 W → ∀ a c : Int, Calls Try.prog 5 #[.agg #[.slice (some ⟨b + 1, 0, none⟩) 6 6, .slice (some ⟨b + 2, 0, none⟩) 2 2, .slice (some ⟨b + 3, 0, none⟩) 3 3, .slice (some ⟨b + 16, 0, none⟩) 5 5], .int .i64 a, .int .i64 c] W fun e w' => e = .returned (.bool true) ∧ Below W.heap.size W w') := Lib.hid (fun W hW a c => kn_apart _ W a c _ (hL.below hW) hLV)
        have KO : Hid (∀ W, Below W2.heap.size W2 W → ∀ a : Int, Calls Try.prog 19 #[.agg #[.slice (some ⟨b + 1, 0, none⟩) 6 6, .slice (some ⟨b + 2, 0, none⟩) 2 2, .slice (some ⟨b + 3, 0, none⟩) 3 3, .slice (some ⟨b + 16, 0, none⟩) 5 5], .int .i64 a] W fun e w' => e = .returned (.bool true) ∧ Below W.heap.size W w') := Lib.hid (fun W hW a => kn_of _ W a _ (hL.below hW) hLV)
        have KT : Hid (∀ W, Below W2.heap.size W2 W → Calls Try.prog 3 #[.agg #[.slice (some ⟨b + 1, 0, none⟩) 6 6, .slice (some ⟨b + 2, 0, none⟩) 2 2, .slice (some ⟨b + 3, 0, none⟩) 3 3, .slice (some ⟨b + 16, 0, none⟩) 5 5]] W fun e w' => e = .returned (.bool true) ∧ Below W.heap.size W w') := Lib.hid (fun W hW => kn_table _ W _ (hL.below hW) hz hLV)
        have KB : Hid (∀ W, Below W2.heap.size W2 W → Calls Try.prog 4 #[.agg #[.slice (some ⟨b + 1, 0, none⟩) 6 6, .slice (some ⟨b + 2, 0, none⟩) 2 2, .slice (some ⟨b + 3, 0, none⟩) 3 3, .slice (some ⟨b + 16, 0, none⟩) 5 5]] W fun e w' => e = .returned (.bool true) ∧ Below W.heap.size W w') := Lib.hid (fun W hW => kn_both _ W _ (hL.below hW) hLV)
        have HB2 := Lib.hid hbw
        have HQL := Lib.hid ql
        clear hW2 ho hL hz ql hbw u1 u2 u3 u4 HK HQR HMM hqq hLV HCS
        go_wp2_with fail
        go_loopg [4, 5] 7 (fun g i _ wr => ∃ q : Nat, q + g = 7 ∧ i = .int .i64 ((q : Int) - 1) ∧ Below W2.heap.size W2 wr)
        case atStart => exact ⟨0, by omega, rfl, Below.refl _ _⟩
        case round =>
          obtain ⟨q, hq, rfl, hb⟩ := hrel
          obtain ⟨wq, rfl⟩ : ∃ W, W = wr := ⟨_, rfl⟩
          have HBQ := Lib.hid hb
          have HQQ := Lib.hid hq
          by_cases hlt : q < 7
          · have d3 : (q : Int) - 1 < 6 := by omega
            have E5 : Hid (wrap64 ((q : Int) - 1 + 1) = (q : Int)) := Lib.hid (by unfold wrap64; omega)
            have HLQ := Lib.hid hlt
            clear hb hq hlt
            go_wp2_with fail
            go_loopg [5] 7 (fun g i wr => ∃ p : Nat, p + g = 7 ∧ i = .int .i64 ((p : Int) - 1) ∧ Below W2.heap.size W2 wr)
            case atStart => exact ⟨0, by omega, rfl, HBQ.out⟩
            case round =>
              obtain ⟨p, hp, rfl, hb⟩ := hrel
              have HBP := Lib.hid hb
              have HPP := Lib.hid hp
              clear HBQ
              have ql := blk_keep hb HQL.out
              have x0 := blk_cell ql 0 _ rfl
              have x1 := blk_cell ql 1 _ rfl
              have x2 := blk_cell ql 2 _ rfl
              have x3 := blk_cell ql 3 _ rfl
              clear ql
              clear hb
              by_cases hlp : p < 7
              · have d4 : (p : Int) - 1 < 6 := by omega
                have E6 : Hid (wrap64 ((p : Int) - 1 + 1) = (p : Int)) := Lib.hid (by unfold wrap64; omega)
                have HLP := Lib.hid hlp
                clear hp hlp
                go_wp2_with fail
                clear x0 x1 x2 x3
                refine (KP.out _ HBP.out _ _).mono ?_
                rintro e w7 ⟨rfl, hb⟩
                have hbq := below_on HBP.out hb
                have ql := blk_keep hbq HQL.out
                have x0 := blk_cell ql 0 _ rfl
                have x1 := blk_cell ql 1 _ rfl
                have x2 := blk_cell ql 2 _ rfl
                have x3 := blk_cell ql 3 _ rfl
                clear ql
                have HB7 := Lib.hid hbq
                clear hb hbq
                go_wp2_with fail
                clear x0 x1 x2 x3
                refine (KA.out _ HB7.out _ _).mono ?_
                rintro e w8 ⟨rfl, hb⟩
                have HB8 := Lib.hid (below_on HB7.out hb)
                clear hb
                have e6 := E6.out
                go_wp2_with fail
                go_roundg (7 - (p + 1))
                case rel => exact ⟨p + 1, by have := HPP.out; have := HLP.out; omega, by first | rfl | go_num | (rw [e6]; congr 1; omega), HB8.out⟩
                case measure => have := HPP.out; have := HLP.out; omega
              · have d4 : ¬ (p : Int) - 1 < 6 := by omega
                clear hp hlp
                go_wp2_with fail
                clear x0 x1 x2 x3 d4
                refine (KO.out _ HBP.out _).mono ?_
                rintro e w7 ⟨rfl, hb⟩
                have HB7 := Lib.hid (below_on HBP.out hb)
                clear hb
                have e5 := E5.out
                go_wp2_with fail
                go_roundg (7 - (q + 1))
                case rel => exact ⟨q + 1, by have := HQQ.out; have := HLQ.out; omega, by first | rfl | go_num | (rw [e5]; congr 1; omega), HB7.out⟩
                case measure => have := HQQ.out; have := HLQ.out; omega
          · have d3 : ¬ (q : Int) - 1 < 6 := by omega
            have ql := blk_keep hb HQL.out
            have x0 := blk_cell ql 0 _ rfl
            have x1 := blk_cell ql 1 _ rfl
            have x2 := blk_cell ql 2 _ rfl
            have x3 := blk_cell ql 3 _ rfl
            clear ql
            clear hb hq hlt
            go_wp2_with fail
            clear x0 x1 x2 x3 d3
            refine (KT.out _ HBQ.out).mono ?_
            rintro e w7 ⟨rfl, hb⟩
            have hbq := below_on HBQ.out hb
            have ql := blk_keep hbq HQL.out
            have x0 := blk_cell ql 0 _ rfl
            have x1 := blk_cell ql 1 _ rfl
            have x2 := blk_cell ql 2 _ rfl
            have x3 := blk_cell ql 3 _ rfl
            clear ql
            have HB7 := Lib.hid hbq
            clear hb hbq
            go_wp2_with fail
            clear x0 x1 x2 x3
            refine (KB.out _ HB7.out).mono ?_
            rintro e w8 ⟨rfl, hb⟩
            have HB8 := Lib.hid (below_on HB2.out (below_on HB7.out hb))
            clear hb
            have e0 := E0.out
            go_wp2_with fail
            go_roundg (16 - (k + 1))
            case rel => exact ⟨k + 1, by have := HKK.out; have := HLT.out; omega, by go_num, HB8.out⟩
            case measure => have := HKK.out; have := HLT.out; omega
    · have d2 : ¬ (k : Int) < 16 := by omega
      clear hk hlt
      go_wp2_with fail
      refine (kn_table emptyL _ _ (empty_at _) empty_z rfl).mono ?_
      rintro e w3 ⟨rfl, hb⟩
      have HB3 := Lib.hid (below_on HB.out hb)
      clear hb
      go_wp2_with fail
      refine (kn_both emptyL _ _ (empty_at _) rfl).mono ?_
      rintro e w4 ⟨rfl, hb⟩
      have HB4 := Lib.hid (below_on HB3.out hb)
      clear hb
      go_wp2_with fail
      refine (works_is _).mono ?_
      rintro e w5 ⟨rfl, hb⟩
      have HB5 := Lib.hid (below_on HB4.out hb)
      clear hb
      go_wp2_with fail
      go_ret
      exact ⟨rfl, HB5.out⟩
end Go.Proofs.Ythlnnlemnbpndaa
