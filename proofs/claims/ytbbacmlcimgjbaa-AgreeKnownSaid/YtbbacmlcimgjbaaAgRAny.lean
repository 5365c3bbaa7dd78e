/-
  Contracts of the document's answer for chapter 20, whatever is called; Merged.
-/
import Derived.Test.YtbbacmlcimgjbaaAgAny
import Derived.Test.YtbbacmlcimgjbaaAgRBegin
import Derived.Test.YtbbacmlcimgjbaaAgRHear
namespace Go.Proofs.Ytbbacmlcimgjbaa
open Go.RowKit
attribute [local irreducible] shortB fewB In.ok InAt MyIn LongAt In.same both cmdCells SideAt OptAt RdAt RSideAt CellsAt In.merge

theorem rmerged_no (s : Side) (X : Nat → Prop) (g : Nat) (w : World) (h : RSideAt w X g s) (hm : s.mOk = false) :
    Calls Try.prog 21 #[.pointer (some ⟨g, 0, none⟩)] w fun e w' => e = .returned (.tuple #[.agg #[.int .u64 0, .int .u32 0, .int .u32 0, .slice none 0 0], .bool false]) ∧ Below w.heap.size w w' := by
  obtain ⟨o0, o1, o2, o3, t0, t1, t2, t3, kc, ky, k0, k1, k2, k3, h1, _⟩ := unfold_rside h
  have e2 := blk_cell h1 2 _ rfl
  have e7 := blk_cell h1 7 _ rfl
  have e19 := blk_cell h1 19 _ rfl
  have hgl := blk_lt h1
  unfold Side.mOk at hm
  obtain ⟨b1, hb1⟩ : ∃ b, s.own.isSome = b := ⟨_, rfl⟩
  obtain ⟨b2, hb2⟩ : ∃ b, s.other.isSome = b := ⟨_, rfl⟩
  obtain ⟨b3, hb3⟩ : ∃ b, s.broken = b := ⟨_, rfl⟩
  rw [hb1] at e2 hm
  rw [hb2] at e7 hm
  rw [hb3] at e19 hm
  clear h1 h hb1 hb2 hb3
  cases b1 with
  | false =>
    clear hm
    go_enter Try.func21, Try.ntmps21
    go_wp2_with fail
    exact bodyPost_ret (v := .tuple #[.agg #[.int .u64 0, .int .u32 0, .int .u32 0, .slice none 0 0], .bool false]) (by simp [results, Try.results21, go_sem]) rfl ⟨rfl, below1 _ _⟩
  | true =>
    cases b2 with
    | false =>
      clear hm
      go_enter Try.func21, Try.ntmps21
      go_wp2_with fail
      exact bodyPost_ret (v := .tuple #[.agg #[.int .u64 0, .int .u32 0, .int .u32 0, .slice none 0 0], .bool false]) (by simp [results, Try.results21, go_sem]) rfl ⟨rfl, below1 _ _⟩
    | true =>
      obtain rfl : b3 = true := by simpa using hm
      clear hm
      go_enter Try.func21, Try.ntmps21
      go_wp2_with fail
      exact bodyPost_ret (v := .tuple #[.agg #[.int .u64 0, .int .u32 0, .int .u32 0, .slice none 0 0], .bool false]) (by simp [results, Try.results21, go_sem]) rfl ⟨rfl, below1 _ _⟩

set_option maxHeartbeats 1000000 in
theorem rmerged_yes (s : Side) (X : Nat → Prop) (g : Nat) (I J : In) (w : World) (h : RSideAt w X g s) (ho : s.own = some I) (ht : s.other = some J) (hbr : s.broken = false) :
    Calls Try.prog 21 #[.pointer (some ⟨g, 0, none⟩)] w fun e w' => ∃ a' c', e = .returned (.tuple #[.agg #[.int .u64 ((I.merge J).o : Int), .int .u32 ((I.merge J).n : Int), .int .u32 ((I.merge J).r : Int), .slice a' (I.merge J).c.length c'], .bool true]) ∧ MyIn w' w.heap.size a' ∧ InAt w' a' c' (I.merge J) ∧ Below w.heap.size w w' := by
  obtain ⟨o0, o1, o2, o3, t0, t1, t2, t3, kc, ky, k0, k1, k2, k3, h1, _, _, h4, h5, _⟩ := unfold_rside h
  rw [ho] at h4 h1
  rw [ht] at h5 h1
  rw [hbr] at h1
  unfold CellsAt at h4 h5
  simp only [] at h4 h5
  obtain ⟨a1, c1, rfl, rfl, rfl, rfl, hi1, _⟩ := h4
  obtain ⟨a2, c2, rfl, rfl, rfl, rfl, hi2, _⟩ := h5
  clear h ho ht hbr
  have hgl := blk_lt h1
  have e2 := blk_cell h1 2 _ rfl
  have e7 := blk_cell h1 7 _ rfl
  have e19 := blk_cell h1 19 _ rfl
  go_enter Try.func21, Try.ntmps21
  go_wp2_with fail
  refine name_world ?_
  intro W hW
  have kz : W.heap[w.heap.size]? = some (.cells #[.int .u64 0, .int .u32 0, .int .u32 0, .slice none 0 0] 33 (0, 0)) := by rw [hW]; exact heap_new1 _ _
  have hB0 : Below w.heap.size w W := by rw [hW]; exact below1 _ _
  have hWs : W.heap.size = w.heap.size + 1 := by rw [hW]; exact Array.size_push ..
  have h1 := blk_keep hB0 h1
  have hi1 := hi1.below hB0
  have hi2 := hi2.below hB0
  have p3 := blk_cell h1 3 _ rfl
  have p4 := blk_cell h1 4 _ rfl
  have p5 := blk_cell h1 5 _ rfl
  have p6 := blk_cell h1 6 _ rfl
  have q2 := blk_cell h1 8 _ rfl
  have q3 := blk_cell h1 9 _ rfl
  have q4 := blk_cell h1 10 _ rfl
  have q5 := blk_cell h1 11 _ rfl
  have l1 := blk_lt h1
  have HW := Lib.hid hWs
  clear hW hWs e2 e7 e19 h1
  go_region_with ((go_at_call 30; refine (refmerge_in I J a1 a2 c1 c2 _ (hi1.below ((Below.refl _ _).drew)) (hi2.below ((Below.refl _ _).drew))).mono ?_; rintro e w1 ⟨a3, c3, rfl, hm3, hi3, hb3⟩; have hb3 : Below W.heap.size W w1 := (Below.refl _ _).drew.trans hb3; have kz' := blk_keep hb3 kz; have z0 := blk_cell kz' 0 _ rfl; have z1 := blk_cell kz' 1 _ rfl; have z2 := blk_cell kz' 2 _ rfl; have z3 := blk_cell kz' 3 _ rfl; have fz := blk_free kz'))
  all_goals go_wp2_with fail
  all_goals
    have hs3 := hb3.size
    have hw := HW.out
    obtain ⟨_, hfin⟩ := set4 kz' (.int .u64 ((I.merge J).o : Int)) (.int .u32 ((I.merge J).n : Int)) (.int .u32 ((I.merge J).r : Int)) (.slice a3 (I.merge J).c.length c3)
    refine bodyPost_ret (v := .tuple #[.agg #[.int .u64 ((I.merge J).o : Int), .int .u32 ((I.merge J).n : Int), .int .u32 ((I.merge J).r : Int), .slice a3 (I.merge J).c.length c3], .bool true]) (by simp [results, Try.results21, go_sem, z0, z1, z2, z3]) rfl ?_
    have hm3 : MyIn w1 W.heap.size a3 := hm3
    have hmy := my_only ⟨hm3, hi3⟩ hfin (by omega)
    exact ⟨a3, c3, rfl, hmy.1.mono (by omega), hmy.2, Only.below (below_on hB0 hb3) (Nat.le_refl _) (by omega) hfin⟩

theorem rbegin_any (s : Side) (X : Nat → Prop) (g : Nat) (cy : Int) (I : In) (a : Option Addr) (cap : Nat) (w : World) (h : RSideAt w X g s) (hin : InAt w a cap I) (hag : I.c ≠ [] → ¬ Blk a g) :
    Calls Try.prog 14 #[.pointer (some ⟨g, 0, none⟩), .int .i64 cy, .agg #[.int .u64 (I.o : Int), .int .u32 (I.n : Int), .int .u32 (I.r : Int), .slice a I.c.length cap]] w
      fun e w' => ∃ X' M a' cap', e = .returned (.tuple #[.agg #[.int .i64 (s.bCh cy), .int .i64 (s.bCy cy), .int .u64 ((s.bIn cy I).o : Int), .int .u32 ((s.bIn cy I).n : Int), .int .u32 ((s.bIn cy I).r : Int), .slice a' (s.bIn cy I).c.length cap'], .int .i64 (s.bCode cy)]) ∧
        RSideAt w' X' g (s.begin cy I) ∧ Gr X X' w.heap.size M ∧ w.heap.size ≤ M ∧ MyIn w' M a' ∧ InAt w' a' cap' (s.bIn cy I) ∧ Only g w w' := by
  unfold Side.bCh Side.bCy Side.bIn Side.bCode
  by_cases hc : cy ≤ s.cy
  · simp only [if_pos hc]
    have hb : s.begin cy I = s := by unfold Side.begin; rw [if_pos hc]
    refine (rbegin_arg s X g cy I a cap w h hc).mono ?_
    rintro e w1 ⟨rfl, hb1⟩
    exact ⟨X, w.heap.size, none, 0, rfl, by rw [hb]; exact h.below hb1, fun j hj => .inl hj, Nat.le_refl _, zero_my _ _, zero_in _, Only.of_below hb1⟩
  · simp only [if_neg hc]
    cases hk : s.kept with
    | none => exact rbegin_none s X g cy I a cap w h hc hin hag hk
    | some x =>
      obtain ⟨c, J⟩ := x
      rcases Int.lt_trichotomy c cy with hlt | heq | hgt
      · exact rbegin_lt s X g cy I a cap w h hc hin hag c J hk hlt
      · exact rbegin_eq s X g cy I a cap w h hc hin hag c J hk heq
      · exact rbegin_gt s X g cy I a cap w h hc hin hag c J hk hgt
theorem rhear_any (s : Side) (X : Nat → Prop) (g : Nat) (ch cy : Int) (I : In) (a : Option Addr) (cap : Nat) (w : World) (h : RSideAt w X g s) (hch : s.ch = 0 ∨ s.ch = 1) (hin : InAt w a cap I) (hag : I.c ≠ [] → ¬ Blk a g) :
    Calls Try.prog 18 #[.pointer (some ⟨g, 0, none⟩), .agg #[.int .i64 ch, .int .i64 cy, .int .u64 (I.o : Int), .int .u32 (I.n : Int), .int .u32 (I.r : Int), .slice a I.c.length cap]] w
      fun e w' => ∃ X' M, e = .returned (.int .i64 (s.hear ch cy I).2) ∧ RSideAt w' X' g (s.hear ch cy I).1 ∧ Gr X X' w.heap.size M ∧ M ≤ w'.heap.size ∧ Only g w w' := by
  by_cases hcc : ch = 1 - s.ch
  · rcases Int.lt_trichotomy cy s.cy with hlt | heq | hgt
    · exact rhear_late s X g ch cy I a cap w h hch hin hcc hlt
    · cases hk : s.other with
      | none => exact rhear_onone s X g ch cy I a cap w h hch hin hag hcc heq hk
      | some J =>
        cases hB : J.same I with
        | true => exact rhear_oT s X g ch cy I a cap w h hch hin hcc heq J hk hB
        | false => exact rhear_oF s X g ch cy I a cap w h hch hin hcc heq J hk hB
    · cases hk : s.kept with
      | none => exact rhear_knone s X g ch cy I a cap w h hch hin hag hcc hgt hk
      | some x =>
        obtain ⟨c, J⟩ := x
        by_cases hc : c < cy
        · exact rhear_klt s X g ch cy I a cap w h hch hin hag hcc hgt c J hk hc
        · cases hB : (c == cy && J.same I) with
          | true => exact rhear_kgeT s X g ch cy I a cap w h hch hin hcc hgt c J hk hc hB
          | false =>
            by_cases hu : c = cy
            · exact rhear_kgeF1 s X g ch cy I a cap w h hch hin hcc hgt c J hk hc hB hu
            · exact rhear_kgeF2 s X g ch cy I a cap w h hch hin hcc hgt c J hk hc hB hu
  · exact rhear_arg s X g ch cy I a cap w h hch hin hcc
theorem rmerged_any (s : Side) (X : Nat → Prop) (g : Nat) (w : World) (h : RSideAt w X g s) :
    Calls Try.prog 21 #[.pointer (some ⟨g, 0, none⟩)] w fun e w' => ∃ a' c', e = .returned (.tuple #[.agg #[.int .u64 (s.mIn.o : Int), .int .u32 (s.mIn.n : Int), .int .u32 (s.mIn.r : Int), .slice a' s.mIn.c.length c'], .bool s.mOk]) ∧ MyIn w' w.heap.size a' ∧ InAt w' a' c' s.mIn ∧ Below w.heap.size w w' := by
  cases hm : s.mOk with
  | false =>
    have hz : s.mIn = In.zero := by
      unfold Side.mIn
      unfold Side.mOk at hm
      cases ho : s.own with
      | none => rfl
      | some I =>
        cases ht : s.other with
        | none => rfl
        | some J =>
          rw [ho, ht] at hm
          have : s.broken = true := by simpa using hm
          simp only []
          rw [this]; rfl
    rw [hz]
    refine (rmerged_no s X g w h hm).mono ?_
    rintro e w1 ⟨rfl, hb1⟩
    exact ⟨none, 0, rfl, zero_my _ _, zero_in _, hb1⟩
  | true =>
    unfold Side.mOk at hm
    cases ho : s.own with
    | none => rw [ho] at hm; cases hm
    | some I =>
      cases ht : s.other with
      | none => rw [ho, ht] at hm; cases hm
      | some J =>
        have hb : s.broken = false := by rw [ho, ht] at hm; simpa using hm
        have hz : s.mIn = I.merge J := by
          unfold Side.mIn; rw [ho, ht]; simp only []; rw [hb]; rfl
        rw [hz]
        exact rmerged_yes s X g I J w h ho ht hb
end Go.Proofs.Ytbbacmlcimgjbaa
