/-
  Layer 08: MasksKnown.
-/
import Derived.Test.YtififkielmddpaaMkJ
import Derived.Test.YtififkielmddpaaMkL
import Derived.Test.YtififkielmddpaaCoW
namespace Go.Proofs.Ytififkielmddpaa
open Go.RowKit
set_option maxRecDepth 100000
theorem kn_make (L : Lay) (w : World) (V : Value) (hL : LayAt w L) (hz : LayZ L) (hV : (Value.agg #[L.se.v, L.po.v, L.sg.v, L.rt.v]) = V) : Calls Try.prog 3 #[V] w fun e w' => e = .returned (.bool true) ∧ Below w.heap.size w w' := hV ▸ masksMake_is L hz w hL
theorem kn_peace (L : Lay) (r : Nat) (hr : r < 18446744073709551616) (w : World) (V : Value) (hL : LayAt w L) (hV : (Value.agg #[L.se.v, L.po.v, L.sg.v, L.rt.v]) = V) : Calls Try.prog 5 #[V, .int .u64 (r : Int)] w fun e w' => e = .returned (.bool true) ∧ Below w.heap.size w w' := hV ▸ masksPeace_is L r hr w hL
def emptyL : Lay := ⟨⟨none, 0, []⟩, ⟨none, 0, []⟩, ⟨none, 0, []⟩, ⟨none, 0, []⟩⟩
theorem empty_at (w : World) : LayAt w emptyL := ⟨sl_none, sl_none, sl_none, sl_none, by simp [emptyL], by simp [emptyL], by simp [emptyL], by simp [emptyL]⟩
theorem empty_z : LayZ emptyL := ⟨by simp [emptyL], by simp [emptyL], by simp [emptyL], by simp [emptyL]⟩
/-- the yard with another first route, all of them or the first alone -/
def kmL (b : Nat) (r : Rt) (m : Nat) : Lay := ⟨⟨(some ⟨b + 1, 0, none⟩), 6, yS⟩, ⟨(some ⟨b + 2, 0, none⟩), 2, yP⟩, ⟨(some ⟨b + 3, 0, none⟩), 3, yG⟩, ⟨(some ⟨b + 16, 0, none⟩), 5, (r :: (yRs b).tail).take m⟩⟩
theorem km_v (b : Nat) (r : Rt) (m : Nat) (h : m = 5 ∨ m = 1) : (Value.agg #[(kmL b r m).se.v, (kmL b r m).po.v, (kmL b r m).sg.v, (kmL b r m).rt.v]) = .agg #[.slice (some ⟨b + 1, 0, none⟩) 6 6, .slice (some ⟨b + 2, 0, none⟩) 2 2, .slice (some ⟨b + 3, 0, none⟩) 3 3, .slice (some ⟨b + 16, 0, none⟩) m 5] := by
  rcases h with rfl | rfl <;> rfl
theorem km_fin {V W2 : World} {b g2 g3 m : Nat} {r : Rt} (hy : YardAt V b) (hwx : WX (XJ b g2 g3) V W2) (hr : RtAt W2 r) (hz : RtZ r) (hrow : ∃ cs, W2.heap[b + 16]? = some (.cells cs 61) ∧ cs.toList = (r :: (yRs b).tail).flatMap rtC) (o1 : b + 17 ≤ g2) (o2 : g2 < g3) :
    LayAt W2 (kmL b r m) ∧ LayZ (kmL b r m) := by
  have hx : ∀ i, i < 16 → ¬ XJ b g2 g3 (b + i) := fun i hi e => by rcases e with e | e | e <;> omega
  have ya : ∀ i o, i < 16 → (yardO b)[i]? = some o → W2.heap[b + i]? = some o := fun i o h2 h3 => hwx.keep (hx i h2) (hy i o h3)
  obtain ⟨cs, q1, q2⟩ := hrow
  have hrl : RowAt 6 rtC W2 (some ⟨b + 16, 0, none⟩) (r :: (yRs b).tail) := row_blk rt_len q1 q2
  have hmem : ∀ x ∈ (r :: (yRs b).tail).take m, x ∈ r :: (yRs b).tail := fun x hx => List.mem_of_mem_take hx
  have hrs : ∀ x ∈ r :: (yRs b).tail, RtAt W2 x ∧ RtZ x := by
    intro x hx2
    simp only [yRs, List.tail_cons, List.mem_cons, List.not_mem_nil, or_false] at hx2
    rcases hx2 with rfl | rfl | rfl | rfl | rfl
    · exact ⟨hr, hz⟩
    · exact ⟨((yR2_at hy hx).step hwx).at_, kj_yz b _ (by simp [yRs])⟩
    · exact ⟨((yR3_at hy hx).step hwx).at_, kj_yz b _ (by simp [yRs])⟩
    · exact ⟨((yR4_at hy hx).step hwx).at_, kj_yz b _ (by simp [yRs])⟩
    · exact ⟨((yR5_at hy hx).step hwx).at_, kj_yz b _ (by simp [yRs])⟩
  refine ⟨⟨sl_blk str_len (ya 1 _ (by decide) rfl) rfl rfl (by decide), sl_blk pt_len (ya 2 _ (by decide) rfl) rfl rfl (by decide), sl_blk pt_len (ya 3 _ (by decide) rfl) rfl rfl (by decide), ⟨hrl.take m, ?_, by show 5 ≤ maxLen; decide, fun e => by cases e⟩, yS_ok, yP_ok, yG_ok, fun x hx => (hrs x (hmem x hx)).1⟩, ⟨fun s hs => zle ?_, fun p hp => zle ?_, fun p hp => zle ?_, fun x hx => (hrs x (hmem x hx)).2⟩⟩
  · show ((r :: (yRs b).tail).take m).length ≤ 5
    rw [List.length_take]
    have : (r :: (yRs b).tail).length = 5 := rfl
    omega
  · have hs : s ∈ yS := hs
    simp [yS] at hs
    rcases hs with rfl | rfl | rfl | rfl | rfl | rfl <;> decide
  · have hp : p ∈ yP := hp
    simp [yP] at hp
    rcases hp with rfl | rfl <;> decide
  · have hp : p ∈ yG := hp
    simp [yG] at hp
    rcases hp with rfl | rfl | rfl <;> decide
theorem pwq_lt32 {n : Nat} (h : n ≤ 31) : pw n < 4294967296 := by
  have := Nat.pow_le_pow_right (n := 2) (show 0 < 2 by omega) h
  rw [pw_eq]; omega
theorem pwq_lt64 {n : Nat} (h : n ≤ 63) : pw n < 18446744073709551616 := by have := pw_le h; omega
theorem yRv_list (b : Nat) : (yRv b).toList = (yRs b).flatMap rtC := rfl
set_option maxHeartbeats 20000000 in
theorem walk_MasksKnown (w : World) : Calls Try.prog 6 #[] w fun e w' => e = .returned (.bool true) ∧ Below w.heap.size w w' := by
  go_enter Try.func6, Try.ntmps6
  go_upto_region 2 with fail
  go_loopg [1, 2, 3, 4] 8 (fun g i _ _ _ wr => ∃ k : Nat, k + g = 8 ∧ i = .int .i64 (k : Int) ∧ Below w.heap.size w wr)
  case atStart => exact ⟨0, by omega, rfl, Below.refl _ _⟩
  case round =>
    obtain ⟨k, hk, rfl, hb⟩ := hrel
    have HB := Lib.hid hb
    have HKK := Lib.hid hk
    clear hb
    by_cases hlt : k < 8
    · have d2 : (k : Int) < 8 := by omega
      have E0 : Hid (wrap64 ((k : Int) + 1) = (k : Int) + 1) := Lib.hid (by unfold wrap64; omega)
      have HLT := Lib.hid hlt
      clear hk hlt
      go_wp2_with fail
      refine (yard_is wr).mono ?_
      rintro e wy ⟨b, hbb, rfl, hy, hby⟩
      have HYA := Lib.hid hy
      have HBY := Lib.hid hby
      have HBB := Lib.hid hbb
      have hrow := hy 16 _ rfl
      have z0 : wy.cell? ⟨b + 16, 0, none⟩ = some (.string ⟨#[82, 49]⟩) := blk_cell hrow 0 _ rfl
      have z1 : wy.cell? ⟨b + 16, 1, none⟩ = some (.int .i64 0) := blk_cell hrow 1 _ rfl
      have z2 : wy.cell? ⟨b + 16, 2, none⟩ = some (.slice (some ⟨b + 4, 0, none⟩) 2 2) := blk_cell hrow 2 _ rfl
      have z3 : wy.cell? ⟨b + 16, 3, none⟩ = some (.slice (some ⟨b + 5, 0, none⟩) 2 2) := blk_cell hrow 3 _ rfl
      have z4 : wy.cell? ⟨b + 16, 4, none⟩ = some (.slice (some ⟨b + 6, 0, none⟩) 1 1) := blk_cell hrow 4 _ rfl
      have z5 : wy.cell? ⟨b + 16, 5, none⟩ = some (.slice none 0 0) := blk_cell hrow 5 _ rfl
      have hl16 := blk_lt hrow
      clear hy hby hbb hrow d2
      go_upto_block 2 with fail
      clear z0 z1 z2 z3 z4 z5 hl16
      refine name_any ?_
      intro V hV
      have at_ := allocs_at [.cells #[.slice (some ⟨b + 1, 0, none⟩) 6 6, .slice (some ⟨b + 2, 0, none⟩) 2 2, .slice (some ⟨b + 3, 0, none⟩) 3 3, .slice (some ⟨b + 16, 0, none⟩) 5 5] 27, .cells #[.string ⟨#[82, 49]⟩, .int .i64 0, .slice (some ⟨b + 4, 0, none⟩) 2 2, .slice (some ⟨b + 5, 0, none⟩) 2 2, .slice (some ⟨b + 6, 0, none⟩) 1 1, .slice none 0 0] 61] wy
      have bl_ := allocs_below [.cells #[.slice (some ⟨b + 1, 0, none⟩) 6 6, .slice (some ⟨b + 2, 0, none⟩) 2 2, .slice (some ⟨b + 3, 0, none⟩) 3 3, .slice (some ⟨b + 16, 0, none⟩) 5 5] 27, .cells #[.string ⟨#[82, 49]⟩, .int .i64 0, .slice (some ⟨b + 4, 0, none⟩) 2 2, .slice (some ⟨b + 5, 0, none⟩) 2 2, .slice (some ⟨b + 6, 0, none⟩) 1 1, .slice none 0 0] 61] wy
      rw [show List.foldl World.alloc wy [.cells #[.slice (some ⟨b + 1, 0, none⟩) 6 6, .slice (some ⟨b + 2, 0, none⟩) 2 2, .slice (some ⟨b + 3, 0, none⟩) 3 3, .slice (some ⟨b + 16, 0, none⟩) 5 5] 27, .cells #[.string ⟨#[82, 49]⟩, .int .i64 0, .slice (some ⟨b + 4, 0, none⟩) 2 2, .slice (some ⟨b + 5, 0, none⟩) 2 2, .slice (some ⟨b + 6, 0, none⟩) 1 1, .slice none 0 0] 61] = V by rw [hV]; rfl] at at_ bl_
      have q2 := at_ 0 _ rfl
      have q3 := at_ 1 _ rfl
      rw [Nat.add_zero] at q2
      obtain ⟨g2, hg2⟩ : ∃ g, g = wy.heap.size := ⟨_, rfl⟩
      obtain ⟨g3, hg3⟩ : ∃ g, g = g2 + 1 := ⟨_, rfl⟩
      rw [← hg2] at q2
      rw [← hg2, ← hg3] at q3
      rw [← hg2, ← hg3]
      have HYV := Lib.hid (HYA.out.below bl_)
      have HOO : Hid (b + 17 ≤ g2 ∧ g2 < g3) := Lib.hid (by have := yard_le HYA.out; omega)
      have HOB : Hid (w.heap.size ≤ b) := Lib.hid (by rw [HBB.out]; exact HB.out.size)
      have HBV := Lib.hid (below_on (below_on HB.out HBY.out) bl_)
      have HQ2 : Hid (V.heap[g2]? = some (.cells #[.slice (some ⟨b + 1, 0, none⟩) 6 6, .slice (some ⟨b + 2, 0, none⟩) 2 2, .slice (some ⟨b + 3, 0, none⟩) 3 3, .slice (some ⟨b + 16, 0, none⟩) 5 5] 27)) := Lib.hid q2
      have HQ3 : Hid (V.heap[g3]? = some (.cells (rtC (yR1 b)).toArray 61)) := Lib.hid q3
      have HR16 := Lib.hid (HYV.out 16 _ rfl)
      have HRX : Hid (RtX (XJ b g2 g3) V (yR1 b)) := Lib.hid (yR1_at HYV.out (fun i hi e => by have := HOO.out; rcases e with e | e | e <;> omega))
      have x3 := blk_cell q2 3 _ rfl
      have e3 := blk_free q2 3
      have hl2 := blk_lt q2
      have f1 := blk_free q3 1
      have f2 := blk_free q3 2
      have f4 := blk_free q3 4
      have f5 := blk_free q3 5
      have y1 := blk_cell q3 1 _ rfl
      have y2 := blk_cell q3 2 _ rfl
      have y4 := blk_cell q3 4 _ rfl
      have y5 := blk_cell q3 5 _ rfl
      have hl3 := blk_lt q3
      clear at_ bl_ hV q2 q3 hg2 hg3
      go_cut [16, 17, 18, 19, 20, 21, 22, 23, 24, 25, 26, 27, 28, 29, 30, 31, 32, 33, 34, 35, 36] (fun _s16 _s17 _s18 _s19 _s20 _s21 _s22 _s23 _s24 _s25 _s26 _s27 _s28 _s29 _s30 _s31 _s32 _s33 _s34 _s35 _s36 wx => ∃ (r : Rt) (m : Nat), wx.heap[g3]? = some (.cells (rtC r).toArray 61) ∧ wx.heap[g2]? = some (.cells #[.slice (some ⟨b + 1, 0, none⟩) 6 6, .slice (some ⟨b + 2, 0, none⟩) 2 2, .slice (some ⟨b + 3, 0, none⟩) 3 3, .slice (some ⟨b + 16, 0, none⟩) m 5] 27) ∧ (m = 5 ∨ m = 1) ∧ WX (fun x => x = g2 ∨ x = g3) V wx ∧ RtX (XJ b g2 g3) wx r ∧ RtZ r)
      case first =>
        rcases (show k = 0 ∨ k = 1 ∨ k = 2 ∨ k = 3 ∨ k = 4 ∨ 5 ≤ k by omega) with hk7 | hk7 | hk7 | hk7 | hk7 | hk7
        · have t0 : ((k : Int) == 0) = true := eqt (by omega)
          clear hk7
          go_wp2_with fail
          go_meet
          obtain ⟨V1, hV1⟩ : ∃ W, W = (World.setCell V ⟨g3, 4, none⟩ (.slice none 0 0)) := ⟨_, rfl⟩
          have hw : WX (fun x => x = g2 ∨ x = g3) V V1 := by rw [hV1]; exact WX.set (.inr rfl) 4 (.slice none 0 0)
          have hq : V1.heap[g3]? = some (.cells (rtC ⟨⟨#[82, 49]⟩, 0, ⟨(some ⟨b + 4, 0, none⟩), 2, [1, 2]⟩, ⟨(some ⟨b + 5, 0, none⟩), 2, [(0, false), (1, false)]⟩, ⟨none, 0, []⟩, ⟨none, 0, []⟩⟩).toArray 61) := by rw [hV1]; exact blk_set HQ3.out 4 (.slice none 0 0)
          have hq2 : V1.heap[g2]? = some (.cells #[.slice (some ⟨b + 1, 0, none⟩) 6 6, .slice (some ⟨b + 2, 0, none⟩) 2 2, .slice (some ⟨b + 3, 0, none⟩) 3 3, .slice (some ⟨b + 16, 0, none⟩) 5 5] 27) := by rw [hV1]; exact (Only.keep ((Only.refl g3 V).setCell rfl _) (by have := HOO.out.2; omega) HQ2.out)
          rw [← hV1]
          clear hV1
          have hb := Below.refl V1.heap.size V1
          have hs := fun {α : Type} {sz : Nat} {f : α → List Value} {s : Sl α} (g : SlX sz f (XJ b g2 g3) V s) => (g.step (hw.mono (fun x hx => by rcases hx with rfl | rfl; exact .inr (.inl rfl); exact .inr (.inr rfl)))).step (WX.of_below hb)
          exact ⟨⟨⟨#[82, 49]⟩, 0, ⟨(some ⟨b + 4, 0, none⟩), 2, [1, 2]⟩, ⟨(some ⟨b + 5, 0, none⟩), 2, [(0, false), (1, false)]⟩, ⟨none, 0, []⟩, ⟨none, 0, []⟩⟩, 5, blk_keep hb hq, blk_keep hb hq2, .inl rfl, hw.trans (WX.of_below hb), ⟨(by show (⟨#[82, 49]⟩ : BA).size ≤ maxLen; decide), (hs HRX.out.pa), (hs HRX.out.po), SlX.nil, (hs HRX.out.fl)⟩, ⟨zle (Nat.le_of_ble_eq_true rfl), zle (Nat.le_of_ble_eq_true rfl), zle (Nat.le_of_ble_eq_true rfl), zle (Nat.le_of_ble_eq_true rfl), zle (Nat.le_of_ble_eq_true rfl)⟩⟩
        · have t0 : ((k : Int) == 0) = false := eqf (by omega)
          have t1 : ((k : Int) == 1) = true := eqt (by omega)
          clear hk7
          go_wp2_with fail
          go_meet
          obtain ⟨V1, hV1⟩ : ∃ W, W = (World.setCell V ⟨g3, 2, none⟩ (.slice none 0 0)) := ⟨_, rfl⟩
          have hw : WX (fun x => x = g2 ∨ x = g3) V V1 := by rw [hV1]; exact WX.set (.inr rfl) 2 (.slice none 0 0)
          have hq : V1.heap[g3]? = some (.cells (rtC ⟨⟨#[82, 49]⟩, 0, ⟨none, 0, []⟩, ⟨(some ⟨b + 5, 0, none⟩), 2, [(0, false), (1, false)]⟩, ⟨(some ⟨b + 6, 0, none⟩), 1, [3]⟩, ⟨none, 0, []⟩⟩).toArray 61) := by rw [hV1]; exact blk_set HQ3.out 2 (.slice none 0 0)
          have hq2 : V1.heap[g2]? = some (.cells #[.slice (some ⟨b + 1, 0, none⟩) 6 6, .slice (some ⟨b + 2, 0, none⟩) 2 2, .slice (some ⟨b + 3, 0, none⟩) 3 3, .slice (some ⟨b + 16, 0, none⟩) 5 5] 27) := by rw [hV1]; exact (Only.keep ((Only.refl g3 V).setCell rfl _) (by have := HOO.out.2; omega) HQ2.out)
          rw [← hV1]
          clear hV1
          have hb := Below.refl V1.heap.size V1
          have hs := fun {α : Type} {sz : Nat} {f : α → List Value} {s : Sl α} (g : SlX sz f (XJ b g2 g3) V s) => (g.step (hw.mono (fun x hx => by rcases hx with rfl | rfl; exact .inr (.inl rfl); exact .inr (.inr rfl)))).step (WX.of_below hb)
          exact ⟨⟨⟨#[82, 49]⟩, 0, ⟨none, 0, []⟩, ⟨(some ⟨b + 5, 0, none⟩), 2, [(0, false), (1, false)]⟩, ⟨(some ⟨b + 6, 0, none⟩), 1, [3]⟩, ⟨none, 0, []⟩⟩, 5, blk_keep hb hq, blk_keep hb hq2, .inl rfl, hw.trans (WX.of_below hb), ⟨(by show (⟨#[82, 49]⟩ : BA).size ≤ maxLen; decide), SlX.nil, (hs HRX.out.po), (hs HRX.out.ov), (hs HRX.out.fl)⟩, ⟨zle (Nat.le_of_ble_eq_true rfl), zle (Nat.le_of_ble_eq_true rfl), zle (Nat.le_of_ble_eq_true rfl), zle (Nat.le_of_ble_eq_true rfl), zle (Nat.le_of_ble_eq_true rfl)⟩⟩
        · have t0 : ((k : Int) == 0) = false := eqf (by omega)
          have t1 : ((k : Int) == 1) = false := eqf (by omega)
          have t2 : ((k : Int) == 2) = true := eqt (by omega)
          clear hk7
          go_wp2_with fail
          go_meet
          obtain ⟨V1, hV1⟩ : ∃ W, W = (World.setCell V ⟨g3, 1, none⟩ (.int .i64 9)) := ⟨_, rfl⟩
          have hw : WX (fun x => x = g2 ∨ x = g3) V V1 := by rw [hV1]; exact WX.set (.inr rfl) 1 (.int .i64 9)
          have hq : V1.heap[g3]? = some (.cells (rtC ⟨⟨#[82, 49]⟩, 9, ⟨(some ⟨b + 4, 0, none⟩), 2, [1, 2]⟩, ⟨(some ⟨b + 5, 0, none⟩), 2, [(0, false), (1, false)]⟩, ⟨(some ⟨b + 6, 0, none⟩), 1, [3]⟩, ⟨none, 0, []⟩⟩).toArray 61) := by rw [hV1]; exact blk_set HQ3.out 1 (.int .i64 9)
          have hq2 : V1.heap[g2]? = some (.cells #[.slice (some ⟨b + 1, 0, none⟩) 6 6, .slice (some ⟨b + 2, 0, none⟩) 2 2, .slice (some ⟨b + 3, 0, none⟩) 3 3, .slice (some ⟨b + 16, 0, none⟩) 5 5] 27) := by rw [hV1]; exact (Only.keep ((Only.refl g3 V).setCell rfl _) (by have := HOO.out.2; omega) HQ2.out)
          rw [← hV1]
          clear hV1
          have hb := Below.refl V1.heap.size V1
          have hs := fun {α : Type} {sz : Nat} {f : α → List Value} {s : Sl α} (g : SlX sz f (XJ b g2 g3) V s) => (g.step (hw.mono (fun x hx => by rcases hx with rfl | rfl; exact .inr (.inl rfl); exact .inr (.inr rfl)))).step (WX.of_below hb)
          exact ⟨⟨⟨#[82, 49]⟩, 9, ⟨(some ⟨b + 4, 0, none⟩), 2, [1, 2]⟩, ⟨(some ⟨b + 5, 0, none⟩), 2, [(0, false), (1, false)]⟩, ⟨(some ⟨b + 6, 0, none⟩), 1, [3]⟩, ⟨none, 0, []⟩⟩, 5, blk_keep hb hq, blk_keep hb hq2, .inl rfl, hw.trans (WX.of_below hb), ⟨(by show (⟨#[82, 49]⟩ : BA).size ≤ maxLen; decide), (hs HRX.out.pa), (hs HRX.out.po), (hs HRX.out.ov), (hs HRX.out.fl)⟩, ⟨zle (Nat.le_of_ble_eq_true rfl), zle (Nat.le_of_ble_eq_true rfl), zle (Nat.le_of_ble_eq_true rfl), zle (Nat.le_of_ble_eq_true rfl), zle (Nat.le_of_ble_eq_true rfl)⟩⟩
        · have t0 : ((k : Int) == 0) = false := eqf (by omega)
          have t1 : ((k : Int) == 1) = false := eqf (by omega)
          have t2 : ((k : Int) == 2) = false := eqf (by omega)
          have t3 : ((k : Int) == 3) = true := eqt (by omega)
          clear hk7
          go_wp2_with fail
          go_meet
          obtain ⟨V1, hV1⟩ : ∃ W, W = (World.setCell V ⟨g3, 5, none⟩ (.slice (some ⟨V.heap.size, 0, none⟩) 1 1)) := ⟨_, rfl⟩
          have hw : WX (fun x => x = g2 ∨ x = g3) V V1 := by rw [hV1]; exact WX.set (.inr rfl) 5 (.slice (some ⟨V.heap.size, 0, none⟩) 1 1)
          have hsz : V1.heap.size = V.heap.size := by rw [hV1]; exact size_set V g3 5 (.slice (some ⟨V.heap.size, 0, none⟩) 1 1)
          have hq : V1.heap[g3]? = some (.cells (rtC ⟨⟨#[82, 49]⟩, 0, ⟨(some ⟨b + 4, 0, none⟩), 2, [1, 2]⟩, ⟨(some ⟨b + 5, 0, none⟩), 2, [(0, false), (1, false)]⟩, ⟨(some ⟨b + 6, 0, none⟩), 1, [3]⟩, ⟨some ⟨V.heap.size, 0, none⟩, 1, [(0, false)]⟩⟩).toArray 61) := by rw [hV1]; exact blk_set HQ3.out 5 (.slice (some ⟨V.heap.size, 0, none⟩) 1 1)
          have hq2 : V1.heap[g2]? = some (.cells #[.slice (some ⟨b + 1, 0, none⟩) 6 6, .slice (some ⟨b + 2, 0, none⟩) 2 2, .slice (some ⟨b + 3, 0, none⟩) 3 3, .slice (some ⟨b + 16, 0, none⟩) 5 5] 27) := by rw [hV1]; exact (Only.keep ((Only.refl g3 V).setCell rfl _) (by have := HOO.out.2; omega) HQ2.out)
          rw [← hV1]
          clear hV1
          have hb := below1 V1 (.cells #[.int .i64 0, .bool false] 63)
          have hs := fun {α : Type} {sz : Nat} {f : α → List Value} {s : Sl α} (g : SlX sz f (XJ b g2 g3) V s) => (g.step (hw.mono (fun x hx => by rcases hx with rfl | rfl; exact .inr (.inl rfl); exact .inr (.inr rfl)))).step (WX.of_below hb)
          exact ⟨⟨⟨#[82, 49]⟩, 0, ⟨(some ⟨b + 4, 0, none⟩), 2, [1, 2]⟩, ⟨(some ⟨b + 5, 0, none⟩), 2, [(0, false), (1, false)]⟩, ⟨(some ⟨b + 6, 0, none⟩), 1, [3]⟩, ⟨some ⟨V.heap.size, 0, none⟩, 1, [(0, false)]⟩⟩, 5, blk_keep hb hq, blk_keep hb hq2, .inl rfl, hw.trans (WX.of_below hb), ⟨(by show (⟨#[82, 49]⟩ : BA).size ≤ maxLen; decide), (hs HRX.out.pa), (hs HRX.out.po), (hs HRX.out.ov), (yrow nd_len (by have h := alloc1 V1 (.cells #[.int .i64 0, .bool false] 63) (Below.refl _ _); rw [hsz] at h; exact h) rfl rfl (by decide) (fun e => by have o1 := HOO.out; have o3 := blk_lt HQ3.out; have o4 := blk_lt HQ2.out; rcases e with e | e | e <;> omega))⟩, ⟨zle (Nat.le_of_ble_eq_true rfl), zle (Nat.le_of_ble_eq_true rfl), zle (Nat.le_of_ble_eq_true rfl), zle (Nat.le_of_ble_eq_true rfl), zle (Nat.le_of_ble_eq_true rfl)⟩⟩
        · have t0 : ((k : Int) == 0) = false := eqf (by omega)
          have t1 : ((k : Int) == 1) = false := eqf (by omega)
          have t2 : ((k : Int) == 2) = false := eqf (by omega)
          have t3 : ((k : Int) == 3) = false := eqf (by omega)
          have t4 : ((k : Int) == 4) = true := eqt (by omega)
          clear hk7
          go_wp2_with fail
          go_meet
          refine ⟨yR1 b, 1, ?_, ?_, .inr rfl, WX.set (.inl rfl) 3 _, HRX.out.step (WX.set (.inr (.inl rfl)) 3 _), kj_yz b _ (by simp [yRs])⟩
          · exact (Only.keep ((Only.refl g2 V).setCell rfl _) (by have := HOO.out.2; omega) HQ3.out)
          · exact blk_set HQ2.out 3 _
        · have t0 : ((k : Int) == 0) = false := eqf (by omega)
          have t1 : ((k : Int) == 1) = false := eqf (by omega)
          have t2 : ((k : Int) == 2) = false := eqf (by omega)
          have t3 : ((k : Int) == 3) = false := eqf (by omega)
          have t4 : ((k : Int) == 4) = false := eqf (by omega)
          clear hk7
          go_wp2_with fail
          go_meet
          exact ⟨yR1 b, 5, HQ3.out, HQ2.out, .inl rfl, WX.refl _ V, HRX.out, kj_yz b _ (by simp [yRs])⟩
      case rest =>
        clear x3 e3 hl2 f1 f2 f4 f5 y1 y2 y4 y5 hl3
        obtain ⟨r, m, hg3, hg2, hm, hwx, hrx, hrz⟩ := hcut
        obtain ⟨nm, sg, ⟨a1, c1, l1⟩, ⟨a2, c2, l2⟩, ⟨a3, c3, l3⟩, ⟨a4, c4, l4⟩⟩ := r
        obtain ⟨m1, hm1⟩ : ∃ n, l1.length = n := ⟨_, rfl⟩
        obtain ⟨m2, hm2⟩ : ∃ n, l2.length = n := ⟨_, rfl⟩
        obtain ⟨m3, hm3⟩ : ∃ n, l3.length = n := ⟨_, rfl⟩
        obtain ⟨m4, hm4⟩ : ∃ n, l4.length = n := ⟨_, rfl⟩
        dsimp only [rtC] at hg3
        rw [slv2 hm1, slv2 hm2, slv2 hm3, slv2 hm4] at hg3
        have HMM := Lib.hid (And.intro hm1 (And.intro hm2 (And.intro hm3 hm4)))
        have HM := Lib.hid hm
        have HRXc := Lib.hid hrx
        have HRZ := Lib.hid hrz
        have HWX := Lib.hid hwx
        have HG2 := Lib.hid hg2
        have qr := hwx.keep (fun e => by have := HOO.out; rcases e with e | e <;> omega) HR16.out
        have HQR := Lib.hid qr
        have hml : 0 < m := by omega
        have x3 := blk_cell hg2 3 _ rfl
        have y0 := blk_cell hg3 0 _ rfl
        have y1 := blk_cell hg3 1 _ rfl
        have y2 := blk_cell hg3 2 _ rfl
        have y3 := blk_cell hg3 3 _ rfl
        have y4 := blk_cell hg3 4 _ rfl
        have y5 := blk_cell hg3 5 _ rfl
        have z0 := blk_cell qr 0 _ rfl
        have z1 := blk_cell qr 1 _ rfl
        have z2 := blk_cell qr 2 _ rfl
        have z3 := blk_cell qr 3 _ rfl
        have z4 := blk_cell qr 4 _ rfl
        have z5 := blk_cell qr 5 _ rfl
        have f0 := blk_free qr 0
        have f1 := blk_free qr 1
        have f2 := blk_free qr 2
        have f3 := blk_free qr 3
        have f4 := blk_free qr 4
        have f5 := blk_free qr 5
        clear hg3 hg2 hm hwx hrx hrz qr hm1 hm2 hm3 hm4
        go_upto_region 18 with fail
        clear x3 y0 y1 y2 y3 y4 y5 z0 z1 z2 z3 z4 z5 f0 f1 f2 f3 f4 f5
        refine name_any ?_
        intro W2 hW2
        have ho : Only (b + 16) wc W2 := by rw [hW2]; exact only_set (only_set (only_set (only_set (only_set (only_set (Only.refl (b + 16) wc) 0 _) 1 _) 2 _) 3 _) 4 _) 5 _
        have hqq : W2.heap[b + 16]? = some (.cells (((((((yRv b).setIfInBounds 0 (.string nm)).setIfInBounds 1 (.int .i64 sg)).setIfInBounds 2 (.slice a1 m1 c1)).setIfInBounds 3 (.slice a2 m2 c2)).setIfInBounds 4 (.slice a3 m3 c3)).setIfInBounds 5 (.slice a4 m4 c4)) 61) := by rw [hW2]; exact blk_set (blk_set (blk_set (blk_set (blk_set (blk_set HQR.out 0 _) 1 _) 2 _) 3 _) 4 _) 5 _
        obtain ⟨u1, u2, u3, u4⟩ := HMM.out
        have hwall : WX (XJ b g2 g3) V W2 := (HWX.out.mono (fun x hx => by rcases hx with rfl | rfl; exact .inr (.inl rfl); exact .inr (.inr rfl))).trans (WX.of_only ho (.inl rfl))
        have hfin := km_fin (m := m) HYV.out hwall ((HRXc.out.step (WX.of_only ho (.inl rfl))).at_) HRZ.out ⟨_, hqq, kj_row nm sg a1 a2 a3 a4 c1 c2 c3 c4 m1 m2 m3 m4 l1 l3 l2 l4 u1 u2 u3 u4 rfl (yRv_list b)⟩ HOO.out.1 HOO.out.2
        have hLV := km_v b (⟨nm, sg, ⟨a1, c1, l1⟩, ⟨a2, c2, l2⟩, ⟨a3, c3, l3⟩, ⟨a4, c4, l4⟩⟩ : Rt) m HM.out
        have HLX := Lib.hid hfin
        have HLVV := Lib.hid hLV
        have HB2 : Hid (Below w.heap.size w W2) := Lib.hid (WX.below HBV.out hwall (fun x hx => by have := HOB.out; have := HOO.out; rcases hx with hx | hx | hx <;> omega))
        have HQL := Lib.hid (ho.keep (by have := HOO.out; omega) HG2.out)
        clear hW2 ho hqq u1 u2 u3 u4 hwall hfin hLV HRXc HRZ HWX HG2 HQR HMM hml
        have KM : Hid (∀ W, Below W2.heap.size W2 W → Calls Try.prog 3 #[.agg #[.slice (some ⟨b + 1, 0, none⟩) 6 6, .slice (some ⟨b + 2, 0, none⟩) 2 2, .slice (some ⟨b + 3, 0, none⟩) 3 3, .slice (some ⟨b + 16, 0, none⟩) m 5]] W fun e w' => e = .returned (.bool true) ∧ Below W.heap.size W w') := Lib.hid (fun W hW => kn_make _ W _ (HLX.out.1.below hW) HLX.out.2 HLVV.out)
        have KP : Hid (∀ (q : Nat), q < 18446744073709551616 → ∀ W, Below W2.heap.size W2 W → Calls Try.prog 5 #[.agg #[.slice (some ⟨b + 1, 0, none⟩) 6 6, .slice (some ⟨b + 2, 0, none⟩) 2 2, .slice (some ⟨b + 3, 0, none⟩) 3 3, .slice (some ⟨b + 16, 0, none⟩) m 5], .int .u64 (q : Int)] W fun e w' => e = .returned (.bool true) ∧ Below W.heap.size W w') := Lib.hid (fun q hq W hW => kn_peace _ q hq W _ (HLX.out.1.below hW) HLVV.out)
        obtain ⟨l0, l1', l2', l3'⟩ := k_box HQL.out
        go_wp2_with fail
        clear l0 l1' l2' l3'
        refine (KM.out _ (Below.refl _ _)).mono ?_
        rintro e w3 ⟨rfl, hb⟩
        have HB3 := Lib.hid hb
        clear hb
        go_upto_region 21 with fail
        go_loopg [4] 32 (fun g v wr => ∃ q : Nat, q + g = 32 ∧ v = .int .u64 (q : Int) ∧ Below W2.heap.size W2 wr)
        case atStart => exact ⟨0, by omega, rfl, HB3.out⟩
        case round =>
          obtain ⟨q, hq, rfl, hb⟩ := hrel
          have HQ := Lib.hid hq
          have HBQ := Lib.hid hb
          clear hb
          by_cases hlq : q < 32
          · have d5 : (q : Int) < 32 := by omega
            have HLQ := Lib.hid hlq
            obtain ⟨y, hy⟩ : ∃ y, q * 2 ||| 1099511627776 = y := ⟨_, rfl⟩
            have HYL : Hid (y < 18446744073709551616) := Lib.hid (by rw [← hy]; exact Nat.or_lt_two_pow (n := 64) (by omega) (by decide))
            have HY : Hid (bits .or .u64 ((q : Int) * 2) 1099511627776 = (y : Int)) := Lib.hid (by rw [show (q : Int) * 2 = ((q * 2 : Nat) : Int) by omega, show (1099511627776 : Int) = ((1099511627776 : Nat) : Int) from rfl, u64_or_nat _ _ (by omega) (by omega), hy])
            have HQB : Hid (q < 18446744073709551616) := Lib.hid (by omega)
            clear hq hlq hy
            obtain ⟨l0, l1', l2', l3'⟩ := k_box (blk_keep HBQ.out HQL.out)
            go_wp2_with fail
            clear l0 l1' l2' l3'
            refine (KP.out q HQB.out _ HBQ.out).mono ?_
            rintro e w4 ⟨rfl, hb⟩
            have HB4 := Lib.hid (below_on HBQ.out hb)
            clear hb
            obtain ⟨l0, l1', l2', l3'⟩ := k_box (blk_keep HB4.out HQL.out)
            have hy := HY.out
            go_wp2_with fail
            clear l0 l1' l2' l3' hy
            refine (KP.out y HYL.out _ HB4.out).mono ?_
            rintro e w5 ⟨rfl, hb⟩
            have HB5 := Lib.hid (below_on HB4.out hb)
            clear hb
            go_wp2_with fail
            go_roundg (32 - (q + 1))
            case rel => exact ⟨q + 1, k_next HQ.out HLQ.out, by go_num, HB5.out⟩
            case measure => exact k_less HQ.out HLQ.out
          · have d5 : ¬ (q : Int) < 32 := by omega
            clear hq hlq
            have e0 := E0.out
            go_wp2_with fail
            go_roundg (8 - (k + 1))
            case rel => exact ⟨k + 1, by have := HKK.out; have := HLT.out; omega, by go_num, below_on HB2.out HBQ.out⟩
            case measure => have := HKK.out; have := HLT.out; omega
    · have d2 : ¬ (k : Int) < 8 := by omega
      clear hk hlt
      go_upto_region 27 with fail
      obtain ⟨wz, rfl⟩ : ∃ W, W = wr := ⟨_, rfl⟩
      go_loopg [5, 6] 70 (fun g v i wr => ∃ (j : Nat) (R : List Mk), j + g = 70 ∧ i = .int .i64 (j : Int) ∧ R.length = j ∧ (∀ x ∈ R, x.ok) ∧ wr.ownsRow wz.heap.size 49 6 v R.length (R.flatMap mkC) ∧ Below wz.heap.size wz wr)
      case atStart => exact ⟨0, [], by omega, rfl, rfl, fun _ h => (by cases h), World.ownsRow_nil _ _ _ _, Below.refl _ _⟩
      case round =>
        obtain ⟨j, R, hj, rfl, hlen, hok, ho, hbw⟩ := hrel
        have HJ := Lib.hid hj
        have HLEN := Lib.hid hlen
        have HOK := Lib.hid hok
        have HO := Lib.hid ho
        have HBJ := Lib.hid hbw
        clear hok hbw
        by_cases hlj : j < 70
        · have d3 : (j : Int) < 70 := by omega
          have d4 : (0 : Int) ≤ j := by omega
          have HLJ := Lib.hid hlj
          obtain ⟨n1, hn1⟩ : ∃ n, j % 32 = n := ⟨_, rfl⟩
          obtain ⟨n2, hn2⟩ : ∃ n, j * 7 % 32 = n := ⟨_, rfl⟩
          obtain ⟨n3, hn3⟩ : ∃ n, j * 5 % 64 = n := ⟨_, rfl⟩
          have HN : Hid ((j : Int).tmod 32 = (n1 : Int) ∧ ((j : Int) * 7).tmod 32 = (n2 : Int) ∧ ((j : Int) * 5).tmod 64 = (n3 : Int)) := Lib.hid (by rw [Int.tmod_eq_emod_of_nonneg (by omega), Int.tmod_eq_emod_of_nonneg (by omega), Int.tmod_eq_emod_of_nonneg (by omega)]; omega)
          have HWM : Hid (IntKind.i64.wrap ((j : Int) * 7) = (j : Int) * 7 ∧ IntKind.i64.wrap ((j : Int) * 5) = (j : Int) * 5) := Lib.hid ⟨by rw [IntKind.wrap_i64]; omega, by rw [IntKind.wrap_i64]; omega⟩
          have HN1 : Hid (n1 ≤ 31) := Lib.hid (by omega)
          have HN2 : Hid (n2 ≤ 31) := Lib.hid (by omega)
          have HN3 : Hid (n3 ≤ 63) := Lib.hid (by omega)
          have HXO : Hid ((⟨0, 0, 0, pw n1, pw n2, pw n3⟩ : Mk).ok) := Lib.hid ⟨by show (0 : Nat) < _; decide, by show (0 : Nat) < _; decide, by show (0 : Nat) < _; decide, pwq_lt32 HN1.out, pwq_lt32 HN2.out, pwq_lt64 HN3.out⟩
          have HDJ : Hid ((j : Int) < 70 ∧ (0 : Int) ≤ j) := Lib.hid ⟨d3, d4⟩
          obtain ⟨av, cv, rfl⟩ := k_sh ho
          clear hj hlen hlj ho hn1 hn2 hn3
          go_upto_region 29 with fail
          refine wp_region_rel (by kernel_rfl) [14, 15] 14 [0, 1, 2, 3, 4, 5, 6, 7, 8, 9, 10, 11, 12, 13] [64, 65, 66, 67, 68, 69, 70, 71, 72, 73, 74, 75, 76, 77] #[true, true, true, true, true, true, true, true, true, true, true, true, true, true, false, false] 2 [(fun v _ => v = .slice av R.length cv), (fun v _ => v = .int .i64 (j : Int)), (fun v _ => v = .int .i64 (n1 : Int)), (fun v _ => v = .int .u32 ((pw n1 : Nat) : Int)), (fun v _ => v = .int .i64 (j : Int)), (fun v _ => v = .int .i64 ((j : Int) * 7)), (fun v _ => v = .int .i64 (n2 : Int)), (fun v _ => v = .int .u32 ((pw n2 : Nat) : Int)), (fun v _ => v = .int .i64 (j : Int)), (fun v _ => v = .int .i64 ((j : Int) * 5)), (fun v _ => v = .int .i64 (n3 : Int)), (fun v _ => v = .int .u64 ((pw n3 : Nat) : Int)), (fun v _ => v = .agg #[.int .u64 0, .int .u64 0, .int .u64 0, .int .u32 ((pw n1 : Nat) : Int), .int .u32 ((pw n2 : Nat) : Int), .int .u64 ((pw n3 : Nat) : Int)]), (fun v V => ∃ g, v = .slice (some ⟨g, 0, none⟩) 1 1 ∧ V.heap[g]? = some (.cells #[.int .u64 0, .int .u64 0, .int .u64 0, .int .u32 ((pw n1 : Nat) : Int), .int .u32 ((pw n2 : Nat) : Int), .int .u64 ((pw n3 : Nat) : Int)] 49)), (fun _ _ => True), (fun _ _ => True)] (by kernel_rfl) (by kernel_rfl) (by kernel_rfl) (by kernel_rfl) (by kernel_rfl) rfl (by kernel_rfl) rfl ?_ ?_ ?_
          · exact ⟨stays_is _, stays_is _, stays_is _, stays_is _, stays_is _, stays_is _, stays_is _, stays_is _, stays_is _, stays_is _, stays_is _, stays_is _, stays_is _, (fun v W W2 h hb => by obtain ⟨g, h1, h2⟩ := h; exact ⟨g, h1, blk_keep hb h2⟩), stays_true, stays_true, trivial⟩
          · refine ⟨?_, ?_, ?_, ?_, ?_, ?_, ?_, ?_, ?_, ?_, ?_, ?_, ?_, ?_, trivial⟩
            · refine relOb_mk (o := ⟨some 64, _, _, _, _, _⟩) rfl (fun r V hc hf hg hs hb hd => ?_)
              have x5 : r (.tmp 5) = .slice av R.length cv := hs 5 (by kernel_rfl)
              clear hs hd hg
              go_simp
              exact ⟨Below.refl _ _, rfl⟩
            · refine relOb_mk (o := ⟨some 65, _, _, _, _, _⟩) rfl (fun r V hc hf hg hs hb hd => ?_)
              have x6 : r (.tmp 6) = .int .i64 (j : Int) := hs 6 (by kernel_rfl)
              clear hs hd hg
              go_simp
              exact ⟨Below.refl _ _, rfl⟩
            · refine relOb_mk (o := ⟨some 66, _, _, _, _, _⟩) rfl (fun r V hc hf hg hs hb hd => ?_)
              have h1 : r (.tmp 65) = .int .i64 (j : Int) := hd 1 65 rfl (by kernel_rfl)
              clear hs hd hg
              obtain ⟨d3, d4⟩ := HDJ.out
              have e := HN.out.1
              go_simp
              exact ⟨Below.refl _ _, rfl⟩
            · refine relOb_mk (o := ⟨some 67, _, _, _, _, _⟩) rfl (fun r V hc hf hg hs hb hd => ?_)
              have h2 : r (.tmp 66) = .int .i64 (n1 : Int) := hd 2 66 rfl (by kernel_rfl)
              clear hs hd hg
              have hp := HN1.out
              have hs1 := shl32 hp
              go_simp
              exact ⟨Below.refl _ _, by simp⟩
            · refine relOb_mk (o := ⟨some 68, _, _, _, _, _⟩) rfl (fun r V hc hf hg hs hb hd => ?_)
              have x6 : r (.tmp 6) = .int .i64 (j : Int) := hs 6 (by kernel_rfl)
              clear hs hd hg
              go_simp
              exact ⟨Below.refl _ _, rfl⟩
            · refine relOb_mk (o := ⟨some 69, _, _, _, _, _⟩) rfl (fun r V hc hf hg hs hb hd => ?_)
              have h4 : r (.tmp 68) = .int .i64 (j : Int) := hd 4 68 rfl (by kernel_rfl)
              clear hs hd hg
              have e := HWM.out.1
              go_simp
              exact ⟨Below.refl _ _, rfl⟩
            · refine relOb_mk (o := ⟨some 70, _, _, _, _, _⟩) rfl (fun r V hc hf hg hs hb hd => ?_)
              have h5 : r (.tmp 69) = .int .i64 ((j : Int) * 7) := hd 5 69 rfl (by kernel_rfl)
              clear hs hd hg
              obtain ⟨d3, d4⟩ := HDJ.out
              have e := HN.out.2.1
              go_simp
              exact ⟨Below.refl _ _, rfl⟩
            · refine relOb_mk (o := ⟨some 71, _, _, _, _, _⟩) rfl (fun r V hc hf hg hs hb hd => ?_)
              have h6 : r (.tmp 70) = .int .i64 (n2 : Int) := hd 6 70 rfl (by kernel_rfl)
              clear hs hd hg
              have hp := HN2.out
              have hs1 := shl32 hp
              go_simp
              exact ⟨Below.refl _ _, by simp⟩
            · refine relOb_mk (o := ⟨some 72, _, _, _, _, _⟩) rfl (fun r V hc hf hg hs hb hd => ?_)
              have x6 : r (.tmp 6) = .int .i64 (j : Int) := hs 6 (by kernel_rfl)
              clear hs hd hg
              go_simp
              exact ⟨Below.refl _ _, rfl⟩
            · refine relOb_mk (o := ⟨some 73, _, _, _, _, _⟩) rfl (fun r V hc hf hg hs hb hd => ?_)
              have h8 : r (.tmp 72) = .int .i64 (j : Int) := hd 8 72 rfl (by kernel_rfl)
              clear hs hd hg
              have e := HWM.out.2
              go_simp
              exact ⟨Below.refl _ _, rfl⟩
            · refine relOb_mk (o := ⟨some 74, _, _, _, _, _⟩) rfl (fun r V hc hf hg hs hb hd => ?_)
              have h9 : r (.tmp 73) = .int .i64 ((j : Int) * 5) := hd 9 73 rfl (by kernel_rfl)
              clear hs hd hg
              obtain ⟨d3, d4⟩ := HDJ.out
              have e := HN.out.2.2
              go_simp
              exact ⟨Below.refl _ _, rfl⟩
            · refine relOb_mk (o := ⟨some 75, _, _, _, _, _⟩) rfl (fun r V hc hf hg hs hb hd => ?_)
              have h10 : r (.tmp 74) = .int .i64 (n3 : Int) := hd 10 74 rfl (by kernel_rfl)
              clear hs hd hg
              have hp := HN3.out
              have hs1 := (or_step (s := 0) HN3.out (by decide)).1
              go_simp
              exact ⟨Below.refl _ _, by simp⟩
            · refine relOb_mk (o := ⟨some 76, _, _, _, _, _⟩) rfl (fun r V hc hf hg hs hb hd => ?_)
              have h3 : r (.tmp 67) = .int .u32 ((pw n1 : Nat) : Int) := hd 3 67 rfl (by kernel_rfl)
              have h7 : r (.tmp 71) = .int .u32 ((pw n2 : Nat) : Int) := hd 7 71 rfl (by kernel_rfl)
              have h11 : r (.tmp 75) = .int .u64 ((pw n3 : Nat) : Int) := hd 11 75 rfl (by kernel_rfl)
              clear hs hd hg
              go_simp
              exact ⟨Below.refl _ _, rfl⟩
            · refine relOb_mk (o := ⟨some 77, _, _, _, _, _⟩) rfl (fun r V hc hf hg hs hb hd => ?_)
              have h12 : r (.tmp 76) = .agg #[.int .u64 0, .int .u64 0, .int .u64 0, .int .u32 ((pw n1 : Nat) : Int), .int .u32 ((pw n2 : Nat) : Int), .int .u64 ((pw n3 : Nat) : Int)] := hd 12 76 rfl (by kernel_rfl)
              clear hs hd hg
              go_simp
              exact ⟨below1 V _, ⟨_, rfl, alloc1 V _ (Below.refl _ _)⟩⟩
          · intro a V hb hx
            have h0 : a.eval (.tmp 64) = .slice av R.length cv := hx 0 64 rfl rfl
            have h1 : a.eval (.tmp 65) = .int .i64 (j : Int) := hx 1 65 rfl rfl
            have h2 : a.eval (.tmp 66) = .int .i64 (n1 : Int) := hx 2 66 rfl rfl
            have h3 : a.eval (.tmp 67) = .int .u32 ((pw n1 : Nat) : Int) := hx 3 67 rfl rfl
            have h4 : a.eval (.tmp 68) = .int .i64 (j : Int) := hx 4 68 rfl rfl
            have h5 : a.eval (.tmp 69) = .int .i64 ((j : Int) * 7) := hx 5 69 rfl rfl
            have h6 : a.eval (.tmp 70) = .int .i64 (n2 : Int) := hx 6 70 rfl rfl
            have h7 : a.eval (.tmp 71) = .int .u32 ((pw n2 : Nat) : Int) := hx 7 71 rfl rfl
            have h8 : a.eval (.tmp 72) = .int .i64 (j : Int) := hx 8 72 rfl rfl
            have h9 : a.eval (.tmp 73) = .int .i64 ((j : Int) * 5) := hx 9 73 rfl rfl
            have h10 : a.eval (.tmp 74) = .int .i64 (n3 : Int) := hx 10 74 rfl rfl
            have h11 : a.eval (.tmp 75) = .int .u64 ((pw n3 : Nat) : Int) := hx 11 75 rfl rfl
            have h12 : a.eval (.tmp 76) = .agg #[.int .u64 0, .int .u64 0, .int .u64 0, .int .u32 ((pw n1 : Nat) : Int), .int .u32 ((pw n2 : Nat) : Int), .int .u64 ((pw n3 : Nat) : Int)] := hx 12 76 rfl rfl
            have h13 : (fun v V => ∃ g, v = .slice (some ⟨g, 0, none⟩) 1 1 ∧ V.heap[g]? = some (.cells #[.int .u64 0, .int .u64 0, .int .u64 0, .int .u32 ((pw n1 : Nat) : Int), .int .u32 ((pw n2 : Nat) : Int), .int .u64 ((pw n3 : Nat) : Int)] 49)) (a.eval (.tmp 77)) V := hx 13 77 rfl rfl
            obtain ⟨v77, e77⟩ : ∃ v, a.eval (.tmp 77) = v := ⟨_, rfl⟩
            rw [e77] at h13
            unfold fillAll
            simp only [List.foldl_cons, List.foldl_nil, h0, h1, h2, h3, h4, h5, h6, h7, h8, h9, h10, h11, h12, e77, Act.put, List.setIfInBounds_toArray, List.set_cons_zero, List.set_cons_succ]
            clear h0 h1 h2 h3 h4 h5 h6 h7 h8 h9 h10 h11 h12 e77 hx
            obtain ⟨gn, rfl, hqn⟩ := h13
            have HBV := Lib.hid (below_on HBJ.out hb)
            have HQN := Lib.hid hqn
            have HOW := Lib.hid (own_below hb HO.out)
            clear hb hqn
            have hq1 : R.length < 70 := by have := HLJ.out; have := HLEN.out; omega
            have hsz := HBV.out.size
            have HSR : Hid (SrcAt V (some ⟨gn, 0, none⟩) 1 [.int .u64 0, .int .u64 0, .int .u64 0, .int .u32 ((pw n1 : Nat) : Int), .int .u32 ((pw n2 : Nat) : Int), .int .u64 ((pw n3 : Nat) : Int)]) := Lib.hid (src_blk HQN.out rfl (mk_one ⟨0, 0, 0, pw n1, pw n2, pw n3⟩))
            obtain ⟨i0, hi, hz0, hz1, hz2⟩ := info_parts info_mk
            refine wpAny_ready (rs := [14]) (by kernel_rfl) (by simp) (AllReady.cons (o := ⟨some 78, _, _, _, _, _⟩) rfl (fun K hK => ?_) AllReady.nil)
            refine step_append_src rfl (.tmp 64) (.tmp 77) 31 rfl wz.heap.size 49 i0 (.agg #[.int .u64 0, .int .u64 0, .int .u64 0, .int .u32 0, .int .u32 0, .int .u64 0]) 6 40 Try.underlying31 hi hz0 hz1 hz2 rfl (by decide) (.slice av R.length cv) R.length (R.flatMap mkC) rfl HOW.out (some ⟨gn, 0, none⟩) 1 1 [.int .u64 0, .int .u64 0, .int .u64 0, .int .u32 ((pw n1 : Nat) : Int), .int .u32 ((pw n2 : Nat) : Int), .int .u64 ((pw n3 : Nat) : Int)] rfl rfl HSR.out (by unfold maxLen; omega) (by omega) hsz ?_
            intro v5 W5 hown5 hg5
            have HB5 := Lib.hid (HBV.out.grown hg5 HBV.out.size (fun k hk => (HOW.out.lt _ hk).1))
            have HO5 := Lib.hid (k_snoc (x := (⟨0, 0, 0, pw n1, pw n2, pw n3⟩ : Mk)) rfl hown5)
            obtain ⟨a5, c5, rfl⟩ := k_sh hown5
            clear hown5 hg5
            refine hK _ _ ?_
            clear hK K hsz hq1
            simp only [Act.put, List.setIfInBounds_toArray, List.set_cons_zero, List.set_cons_succ]
            refine wpAny_ready (rs := [15]) (by kernel_rfl) (by simp) (AllReady.cons (o := ⟨some 5, _, _, _, _, _⟩) rfl (fun K hK => ?_) AllReady.nil)
            go_simp
            refine hK _ _ ?_
            clear hK K
            refine wpAny_done (by kernel_rfl) ?_ _
            obtain ⟨d3, d4⟩ := HDJ.out
            go_wp2_with fail
            go_roundg (70 - (j + 1))
            case rel => exact ⟨j + 1, R ++ [⟨0, 0, 0, pw n1, pw n2, pw n3⟩], k_next HJ.out HLJ.out, by go_num, by rw [List.length_append, HLEN.out]; rfl, fun x hx => by
              rcases List.mem_append.1 hx with h | h
              · exact HOK.out x h
              · rw [List.mem_singleton.1 h]; exact HXO.out, HO5.out, HB5.out⟩
            case measure => exact k_less HJ.out HLJ.out
        · have d3 : ¬ (j : Int) < 70 := by omega
          have h70 : R.length = 70 := by omega
          obtain ⟨x9, c9, hv9, hs9⟩ := own_sl (l := R) mk_len rfl ho
          subst hv9
          rw [h70]
          have hc9 : (3 : Int) ≤ c9 := by have := hs9.len; dsimp only at this; omega
          have HROW := Lib.hid hs9.row
          have H70 := Lib.hid h70
          have HB7 := Lib.hid (below_on HB.out HBJ.out)
          clear hj hlen hlj ho h70 hs9
          have KN : Hid (∀ (q : Nat), q < 18446744073709551616 → ∀ W, Below wr.heap.size wr W → Calls Try.prog 4 #[.slice x9 70 c9, .int .u64 (q : Int)] W fun e w' => e = .returned (.bool true) ∧ Below W.heap.size W w') := Lib.hid (fun q hq W hW => masksNeed_is R x9 70 c9 q HOK.out hq H70.out W (HROW.out.below hW))
          have KN3 : Hid (∀ (q : Nat), q < 18446744073709551616 → ∀ W, Below wr.heap.size wr W → Calls Try.prog 4 #[.slice x9 3 c9, .int .u64 (q : Int)] W fun e w' => e = .returned (.bool true) ∧ Below W.heap.size W w') := Lib.hid (fun q hq W hW => masksNeed_is (R.take 3) x9 3 c9 q (fun x hx => HOK.out x (List.mem_of_mem_take hx)) hq (by rw [List.length_take, H70.out]; rfl) W ((HROW.out.below hW).take 3))
          obtain ⟨X9, hX9⟩ : ∃ a, x9 = a := ⟨_, rfl⟩
          rw [hX9] at KN KN3 ⊢
          have hrow := HROW.out
          rw [hX9] at hrow
          rcases hrow with hnil | ⟨zb, zo, hzb, _⟩
          · have := H70.out; dsimp only at hnil; rw [hnil] at this; cases this
          subst hzb
          clear hX9
          go_wp2_with fail
          refine (kn_make emptyL _ _ (empty_at _) empty_z rfl).mono ?_
          rintro e w1 ⟨rfl, hb⟩
          have HC1 := Lib.hid hb
          clear hb
          go_wp2_with fail
          refine (KN.out 18446744073709551615 (by decide) _ HC1.out).mono ?_
          rintro e w2 ⟨rfl, hb⟩
          have HC2 := Lib.hid (below_on HC1.out hb)
          clear hb
          go_wp2_with fail
          refine (KN3.out 18446744073709551615 (by decide) _ HC2.out).mono ?_
          rintro e w3 ⟨rfl, hb⟩
          have HC3 := Lib.hid (below_on HC2.out hb)
          clear hb
          go_wp2_with fail
          refine (KN.out 0 (by decide) _ HC3.out).mono ?_
          rintro e w4 ⟨rfl, hb⟩
          have HC4 := Lib.hid (below_on HC3.out hb)
          clear hb
          go_wp2_with fail
          refine (masksNeed_is [] none 0 0 7 (fun _ h => (by cases h)) (by decide) rfl _ RowAt.nil).mono ?_
          rintro e w5 ⟨rfl, hb⟩
          have HC5 := Lib.hid (below_on HC4.out hb)
          clear hb
          go_wp2_with fail
          refine (works_is _).mono ?_
          rintro e w6 ⟨rfl, hb⟩
          have HC6 := Lib.hid (below_on HB7.out (below_on HC5.out hb))
          clear hb
          go_wp2_with fail
          go_ret
          exact ⟨rfl, HC6.out⟩
end Go.Proofs.Ytififkielmddpaa
