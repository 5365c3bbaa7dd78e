/-
  Walks of chapter 20: Merged of package agree.
-/
import Derived.Test.YtbbacmlcimgjbaaAgHear
namespace Go.Proofs.Ytbbacmlcimgjbaa
open Go.RowKit
attribute [local irreducible] shortB fewB In.ok InAt MyIn LongAt In.same both cmdCells SideAt OptAt RdAt RSideAt CellsAt

theorem InAt.bounds {w : World} {a : Option Addr} {cap : Nat} {I : In} (h : InAt w a cap I) : I.o < 18446744073709551616 ∧ I.n < 4294967296 ∧ I.r < 4294967296 ∧ I.c.length ≤ 1000 := by have := h.ok; unfold In.ok at this; exact this
theorem own_nil {w : World} {base : Nat} {e : TypeId} {n : Nat} {xs : List Value} {a : Option Addr} {cap : Nat} (h : w.ownsRow base e 2 (.slice a n cap) n xs) : a = none → cap = 0 := by
  obtain ⟨a', c', e, h'⟩ := own_form h
  cases e
  exact h'
theorem both_bounds {l m : List (Nat × Int)} (h : ∀ c ∈ l, c.1 < 256 ∧ -9223372036854775808 ≤ c.2 ∧ c.2 ≤ 9223372036854775807) : ∀ c ∈ both l m, c.1 < 256 ∧ -9223372036854775808 ≤ c.2 ∧ c.2 ≤ 9223372036854775807 := by
  unfold both
  split
  · exact h
  · simp
theorem merge_in (I J : In) (a b : Option Addr) (ca cb : Nat) (w : World) (ha : InAt w a ca I) (hb : InAt w b cb J) :
    Calls Try.prog 29 #[.agg #[.int .u64 (I.o : Int), .int .u32 (I.n : Int), .int .u32 (I.r : Int), .slice a I.c.length ca], .agg #[.int .u64 (J.o : Int), .int .u32 (J.n : Int), .int .u32 (J.r : Int), .slice b J.c.length cb]] w
      fun e w' => ∃ a' c', e = .returned (.agg #[.int .u64 ((I.merge J).o : Int), .int .u32 ((I.merge J).n : Int), .int .u32 ((I.merge J).r : Int), .slice a' (I.merge J).c.length c']) ∧ MyIn w' w.heap.size a' ∧ InAt w' a' c' (I.merge J) ∧ Below w.heap.size w w' := by
  obtain ⟨x1, x2, x3, x4⟩ := ha.bounds
  obtain ⟨y1, y2, y3, y4⟩ := hb.bounds
  refine (merge_any _ _ _ _ _ _ a b I.c J.c _ _ ca cb w rfl rfl x4 y4 ha.cmds hb.cmds ha.capNil x1 y1 x2 y2 x3 y3).mono ?_
  rintro e w1 ⟨a', c', h1, h2, h3, h4⟩
  have hm := my_of_own (I.merge J) rfl (In.merge_ok ha.ok hb.ok) (both_bounds ha.cmds.1) rfl h3
  exact ⟨a', c', h1, hm.1, hm.2, h4⟩
theorem refmerge_in (I J : In) (a b : Option Addr) (ca cb : Nat) (w : World) (ha : InAt w a ca I) (hb : InAt w b cb J) :
    Calls Try.prog 30 #[.agg #[.int .u64 (I.o : Int), .int .u32 (I.n : Int), .int .u32 (I.r : Int), .slice a I.c.length ca], .agg #[.int .u64 (J.o : Int), .int .u32 (J.n : Int), .int .u32 (J.r : Int), .slice b J.c.length cb]] w
      fun e w' => ∃ a' c', e = .returned (.agg #[.int .u64 ((I.merge J).o : Int), .int .u32 ((I.merge J).n : Int), .int .u32 ((I.merge J).r : Int), .slice a' (I.merge J).c.length c']) ∧ MyIn w' w.heap.size a' ∧ InAt w' a' c' (I.merge J) ∧ Below w.heap.size w w' := by
  obtain ⟨x1, x2, x3, x4⟩ := ha.bounds
  obtain ⟨y1, y2, y3, y4⟩ := hb.bounds
  refine (refmerge_any _ _ _ _ _ _ a b I.c J.c _ _ ca cb w rfl rfl x4 y4 ha.cmds hb.cmds ha.capNil x1 y1 x2 y2 x3 y3).mono ?_
  rintro e w1 ⟨a', c', h1, h2, h3, h4⟩
  have hm := my_of_own (I.merge J) rfl (In.merge_ok ha.ok hb.ok) (both_bounds ha.cmds.1) rfl h3
  exact ⟨a', c', h1, hm.1, hm.2, h4⟩
attribute [local irreducible] In.merge

theorem set4 {w : World} {g : Nat} {a0 a1 a2 a3 : Value} {t : TypeId} {fr : Nat × Nat} (h0 : w.heap[g]? = some (.cells #[a0, a1, a2, a3] t fr)) (u0 u1 u2 u3 : Value) :
    ((((w.setCell ⟨g, 0, none⟩ u0).setCell ⟨g, 1, none⟩ u1).setCell ⟨g, 2, none⟩ u2).setCell ⟨g, 3, none⟩ u3).heap[g]? = some (.cells #[u0, u1, u2, u3] t fr) ∧ Only g w ((((w.setCell ⟨g, 0, none⟩ u0).setCell ⟨g, 1, none⟩ u1).setCell ⟨g, 2, none⟩ u2).setCell ⟨g, 3, none⟩ u3) := by
  have o0 : Only g w w := Only.refl g w
  have h1 : (w.setCell ⟨g, 0, none⟩ u0).heap[g]? = some (.cells #[u0, a1, a2, a3] t fr) := blk_set h0 0 u0
  have o1 := o0.setCell (p := ⟨g, 0, none⟩) rfl u0
  generalize w.setCell ⟨g, 0, none⟩ u0 = w1 at h1 o1 ⊢
  have h2 : (w1.setCell ⟨g, 1, none⟩ u1).heap[g]? = some (.cells #[u0, u1, a2, a3] t fr) := blk_set h1 1 u1
  have o2 := o1.setCell (p := ⟨g, 1, none⟩) rfl u1
  generalize w1.setCell ⟨g, 1, none⟩ u1 = w2 at h2 o2 ⊢
  have h3 : (w2.setCell ⟨g, 2, none⟩ u2).heap[g]? = some (.cells #[u0, u1, u2, a3] t fr) := blk_set h2 2 u2
  have o3 := o2.setCell (p := ⟨g, 2, none⟩) rfl u2
  generalize w2.setCell ⟨g, 2, none⟩ u2 = w3 at h3 o3 ⊢
  have h4 : (w3.setCell ⟨g, 3, none⟩ u3).heap[g]? = some (.cells #[u0, u1, u2, u3] t fr) := blk_set h3 3 u3
  have o4 := o3.setCell (p := ⟨g, 3, none⟩) rfl u3
  generalize w3.setCell ⟨g, 3, none⟩ u3 = w4 at h4 o4 ⊢
  exact ⟨h4, o4⟩
theorem nmerged (w : World) : Calls Try.prog 20 #[.pointer none] w fun e w' => e = .returned (.tuple #[.agg #[.int .u64 0, .int .u32 0, .int .u32 0, .slice none 0 0], .bool false]) ∧ Below w.heap.size w w' := by
  go_enter Try.func20, Try.ntmps20
  go_wp2_with fail
  exact bodyPost_ret (v := .tuple #[.agg #[.int .u64 0, .int .u32 0, .int .u32 0, .slice none 0 0], .bool false]) (by simp [results, Try.results20, go_sem]) rfl ⟨rfl, below1 _ _⟩

theorem merged_no (s : Side) (X : Nat → Prop) (g : Nat) (w : World) (h : SideAt w X g s) (hm : s.mOk = false) :
    Calls Try.prog 20 #[.pointer (some ⟨g, 0, none⟩)] w fun e w' => e = .returned (.tuple #[.agg #[.int .u64 0, .int .u32 0, .int .u32 0, .slice none 0 0], .bool false]) ∧ Below w.heap.size w w' := by
  obtain ⟨po, pt, pk, h1, _, _, h4, h5, _⟩ := unfold_side h
  unfold OptAt RdAt at h4 h5
  have e2 := blk_cell h1 2 _ rfl
  have e3 := blk_cell h1 3 _ rfl
  have e5 := blk_cell h1 5 _ rfl
  unfold Side.mOk at hm
  have hgl := blk_lt h1
  clear h1 h
  cases ho : s.own with
  | none =>
    rw [ho] at h4
    simp only [Option.map_none] at h4
    subst h4
    clear h5 hm ho
    go_enter Try.func20, Try.ntmps20
    go_wp2_with fail
    exact bodyPost_ret (v := .tuple #[.agg #[.int .u64 0, .int .u32 0, .int .u32 0, .slice none 0 0], .bool false]) (by simp [results, Try.results20, go_sem]) rfl ⟨rfl, below1 _ _⟩
  | some I =>
    rw [ho] at h4 hm
    simp only [Option.map_some] at h4
    obtain ⟨k1, _, _, _, rfl, _⟩ := h4
    cases ht : s.other with
    | none =>
      rw [ht] at h5
      simp only [Option.map_none] at h5
      subst h5
      clear hm ho ht
      go_enter Try.func20, Try.ntmps20
      go_wp2_with fail
      exact bodyPost_ret (v := .tuple #[.agg #[.int .u64 0, .int .u32 0, .int .u32 0, .slice none 0 0], .bool false]) (by simp [results, Try.results20, go_sem]) rfl ⟨rfl, below1 _ _⟩
    | some J =>
      rw [ht] at h5 hm
      simp only [Option.map_some] at h5
      obtain ⟨k2, _, _, _, rfl, _⟩ := h5
      have hbr : s.broken = true := by simpa using hm
      rw [hbr] at e5
      clear hm ho ht hbr
      go_enter Try.func20, Try.ntmps20
      go_wp2_with fail
      exact bodyPost_ret (v := .tuple #[.agg #[.int .u64 0, .int .u32 0, .int .u32 0, .slice none 0 0], .bool false]) (by simp [results, Try.results20, go_sem]) rfl ⟨rfl, below1 _ _⟩

set_option maxHeartbeats 1000000 in
theorem merged_yes (s : Side) (X : Nat → Prop) (g : Nat) (I J : In) (w : World) (h : SideAt w X g s) (ho : s.own = some I) (ht : s.other = some J) (hbr : s.broken = false) :
    Calls Try.prog 20 #[.pointer (some ⟨g, 0, none⟩)] w fun e w' => ∃ a' c', e = .returned (.tuple #[.agg #[.int .u64 ((I.merge J).o : Int), .int .u32 ((I.merge J).n : Int), .int .u32 ((I.merge J).r : Int), .slice a' (I.merge J).c.length c'], .bool true]) ∧ MyIn w' w.heap.size a' ∧ InAt w' a' c' (I.merge J) ∧ Below w.heap.size w w' := by
  obtain ⟨po, pt, pk, h1, _, _, h4, h5, _⟩ := unfold_side h
  unfold OptAt RdAt at h4 h5
  rw [ho] at h4
  rw [ht] at h5
  rw [hbr] at h1
  simp only [Option.map_some] at h4 h5
  obtain ⟨k1, a1, c1, ch1, rfl, _, hk1, hi1, _⟩ := h4
  obtain ⟨k2, a2, c2, ch2, rfl, _, hk2, hi2, _⟩ := h5
  have hgl := blk_lt h1
  clear h ho ht hbr
  go_enter Try.func20, Try.ntmps20
  have e2 := blk_cell h1 2 _ rfl
  have e3 := blk_cell h1 3 _ rfl
  have e5 := blk_cell h1 5 _ rfl
  go_wp2_with fail
  refine name_world ?_
  intro W hW
  have kz : W.heap[w.heap.size]? = some (.cells #[.int .u64 0, .int .u32 0, .int .u32 0, .slice none 0 0] 33 (0, 0)) := by rw [hW]; exact heap_new1 _ _
  have hB0 : Below w.heap.size w W := by rw [hW]; exact below1 _ _
  have hWs : W.heap.size = w.heap.size + 1 := by rw [hW]; exact Array.size_push ..
  have h1 := blk_keep hB0 h1
  have hk1 := blk_keep hB0 hk1
  have hk2 := blk_keep hB0 hk2
  have hi1 := hi1.below hB0
  have hi2 := hi2.below hB0
  have e2 := blk_cell h1 2 _ rfl
  have e3 := blk_cell h1 3 _ rfl
  have p2 := blk_cell hk1 2 _ rfl
  have p3 := blk_cell hk1 3 _ rfl
  have p4 := blk_cell hk1 4 _ rfl
  have p5 := blk_cell hk1 5 _ rfl
  have q2 := blk_cell hk2 2 _ rfl
  have q3 := blk_cell hk2 3 _ rfl
  have q4 := blk_cell hk2 4 _ rfl
  have q5 := blk_cell hk2 5 _ rfl
  have l1 := blk_lt h1
  have l2 := blk_lt hk1
  have l3 := blk_lt hk2
  have HW := Lib.hid hWs
  clear hW hWs e5 h1 hk1 hk2
  go_region_with ((go_at_call 29; refine (merge_in I J a1 a2 c1 c2 _ (hi1.below ((Below.refl _ _).drew)) (hi2.below ((Below.refl _ _).drew))).mono ?_; rintro e w1 ⟨a3, c3, rfl, hm3, hi3, hb3⟩; have hb3 : Below W.heap.size W w1 := (Below.refl _ _).drew.trans hb3; have kz' := blk_keep hb3 kz; have z0 := blk_cell kz' 0 _ rfl; have z1 := blk_cell kz' 1 _ rfl; have z2 := blk_cell kz' 2 _ rfl; have z3 := blk_cell kz' 3 _ rfl; have fz := blk_free kz'))
  all_goals go_wp2_with fail
  all_goals
    have hs3 := hb3.size
    have hw := HW.out
    obtain ⟨_, hfin⟩ := set4 kz' (.int .u64 ((I.merge J).o : Int)) (.int .u32 ((I.merge J).n : Int)) (.int .u32 ((I.merge J).r : Int)) (.slice a3 (I.merge J).c.length c3)
    refine bodyPost_ret (v := .tuple #[.agg #[.int .u64 ((I.merge J).o : Int), .int .u32 ((I.merge J).n : Int), .int .u32 ((I.merge J).r : Int), .slice a3 (I.merge J).c.length c3], .bool true]) (by simp [results, Try.results20, go_sem, z0, z1, z2, z3]) rfl ?_
    have hm3 : MyIn w1 W.heap.size a3 := hm3
    have hmy := my_only ⟨hm3, hi3⟩ hfin (by omega)
    exact ⟨a3, c3, rfl, hmy.1.mono (by omega), hmy.2, Only.below (below_on hB0 hb3) (Nat.le_refl _) (by omega) hfin⟩
end Go.Proofs.Ytbbacmlcimgjbaa
