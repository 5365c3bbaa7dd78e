/-
  Walks of chapter 20: rows of calls, few, spoil.
-/
import Derived.Test.YtbbacmlcimgjbaaAgSmall
import Derived.Deep.LoopGhost
import Derived.WalkMore
namespace Go.Proofs.Ytbbacmlcimgjbaa
open Go.RowKit
attribute [local irreducible] In.same In.merge both cmdCells

/-- a call: its kind, its reading -/
structure Cal where
  k : Int
  ch : Int
  cy : Int
  I : In
  a : Option Addr
  cap : Nat
/-- as InAt, of whatever length -/
def LongAt (w : World) (a : Option Addr) (cap : Nat) (I : In) : Prop := (I.o < 18446744073709551616 ∧ I.n < 4294967296 ∧ I.r < 4294967296 ∧ I.c.length ≤ maxLen) ∧ CmdsAt w a I.c ∧ (a = none → cap = 0)
theorem LongAt.below {w w' : World} {a : Option Addr} {cap : Nat} {I : In} (hb : Below w.heap.size w w') (h : LongAt w a cap I) : LongAt w' a cap I := ⟨h.1, h.2.1.below hb, h.2.2⟩
theorem LongAt.short {w : World} {a : Option Addr} {cap : Nat} {I : In} (h : LongAt w a cap I) (hl : I.c.length ≤ 20) : InAt w a cap I := ⟨⟨h.1.1, h.1.2.1, h.1.2.2.1, by omega⟩, h.2.1, h.2.2⟩
def CalsAt (w : World) (a : Option Addr) (l : List Cal) : Prop := (∀ c ∈ l, LongAt w c.a c.cap c.I) ∧ (l = [] ∨ ∃ b off, a = some ⟨b, off, none⟩ ∧ ∀ i c, l[i]? = some c →
  w.cell? ⟨b, off + i * 7, none⟩ = some (.int .i64 c.k) ∧ w.cell? ⟨b, off + i * 7 + 1, none⟩ = some (.int .i64 c.ch) ∧ w.cell? ⟨b, off + i * 7 + 2, none⟩ = some (.int .i64 c.cy) ∧
  w.cell? ⟨b, off + i * 7 + 3, none⟩ = some (.int .u64 (c.I.o : Int)) ∧ w.cell? ⟨b, off + i * 7 + 4, none⟩ = some (.int .u32 (c.I.n : Int)) ∧ w.cell? ⟨b, off + i * 7 + 5, none⟩ = some (.int .u32 (c.I.r : Int)) ∧
  w.cell? ⟨b, off + i * 7 + 6, none⟩ = some (.slice c.a c.I.c.length c.cap))
theorem CalsAt.below {w w' : World} {a : Option Addr} {l : List Cal} (hb : Below w.heap.size w w') (h : CalsAt w a l) : CalsAt w' a l := by
  refine ⟨fun c hc => (h.1 c hc).below hb, h.2.imp id ?_⟩
  rintro ⟨b, off, rfl, hc⟩
  refine ⟨b, off, rfl, fun i c hi => ?_⟩
  obtain ⟨h0, h1, h2, h3, h4, h5, h6⟩ := hc i c hi
  exact ⟨cell_later hb h0, cell_later hb h1, cell_later hb h2, cell_later hb h3, cell_later hb h4, cell_later hb h5, cell_later hb h6⟩
def shortB (l : List Cal) : Bool := l.all fun c => decide (c.I.c.length ≤ 20)
def fewB (l : List Cal) : Bool := decide (l.length ≤ 60) && shortB l
theorem shortB_get {l : List Cal} (h : shortB l = true) {c : Cal} (hc : c ∈ l) : c.I.c.length ≤ 20 := by
  have := List.all_eq_true.1 h c hc
  simpa using this
theorem shortB_step {l : List Cal} {k : Nat} {c : Cal} (h : l[k]? = some c) (ht : shortB (l.take k) = true) (hs : c.I.c.length ≤ 20) : shortB (l.take (k + 1)) = true := by
  rw [List.take_add_one, h]
  unfold shortB at ht ⊢
  rw [List.all_append, ht]
  simpa using hs
theorem shortB_long {l : List Cal} {k : Nat} {c : Cal} (h : l[k]? = some c) (hs : ¬ c.I.c.length ≤ 20) : shortB l = false := by
  unfold shortB
  rw [List.all_eq_false]
  exact ⟨c, List.mem_of_getElem? h, by simpa using hs⟩
attribute [local irreducible] shortB fewB In.ok InAt MyIn LongAt

set_option maxHeartbeats 1000000 in
theorem few_is (l : List Cal) (a : Option Addr) (n cap : Nat) (w : World) (hn : l.length = n) (hnm : n ≤ maxLen) (h : CalsAt w a l) :
    Calls Try.prog 7 #[.slice a n cap] w fun e w' => e = .returned (.bool (fewB l)) ∧ Below w.heap.size w w' := by
  unfold maxLen at hnm
  have HN := Lib.hid hn
  clear hn
  by_cases h60 : n ≤ 60
  · have hlc := h
    have HF : Hid (fewB l = shortB l) := Lib.hid (by unfold fewB; rw [HN.out, decide_eq_true h60]; simp)
    go_enter Try.func7, Try.ntmps7
    go_wp2_with fail
    go_loopg [3] n (fun m i wr => ∃ k, k + m = n ∧ i = .int .i64 (k : Nat) ∧ Hid (shortB (l.take k) = true) ∧ Below w.heap.size w wr)
    case atStart => exact ⟨0, by omega, rfl, Lib.hid (by unfold shortB; rfl), Below.refl _ _⟩
    case round =>
      obtain ⟨k, hk, rfl, ht, hB⟩ := hrel
      by_cases hkn : k < n
      · obtain ⟨c, hc⟩ : ∃ c, l[k]? = some c := ⟨_, List.getElem?_eq_getElem (by rw [HN.out]; exact hkn)⟩
        obtain ⟨b, off, rfl, hcells⟩ := (h.below hB).2.resolve_left (by rintro rfl; simp at hc)
        obtain ⟨_, _, _, _, _, _, c6⟩ := hcells k c hc
        have HC := Lib.hid hc
        have hlen : c.I.c.length ≤ 9223372036854775807 := by
          have := (h.below hB).1 c (List.mem_of_getElem? hc)
          unfold LongAt maxLen at this
          exact this.1.2.2.2
        have d1 : (k : Int) < n := by omega
        clear hcells hc h hlc
        obtain ⟨q, hq⟩ : ∃ q, q = c.I.c.length := ⟨_, rfl⟩
        rw [← hq] at c6 hlen
        by_cases hs : q ≤ 20
        · have ht2 : Hid (shortB (l.take (k + 1)) = true) := Lib.hid (shortB_step HC.out ht.out (by rw [← hq]; exact hs))
          have d2 : decide ((q : Int) > 20) = false := decide_eq_false (by omega)
          have d3 : decide (20 < (q : Int)) = false := decide_eq_false (by omega)
          clear hq
          go_wp2_with fail
          go_roundg (n - (k + 1))
          case rel => exact ⟨k + 1, by omega, by go_num, ht2, hB⟩
          case measure => omega
        · have hf : Hid (fewB l = false) := Lib.hid (by rw [HF.out]; exact shortB_long HC.out (by rw [← hq]; exact hs))
          have d2 : decide ((q : Int) > 20) = true := decide_eq_true (by omega)
          have d3 : decide (20 < (q : Int)) = true := decide_eq_true (by omega)
          clear hq
          go_wp2_with fail
          try rw [Exit.noGoto_ret]
          go_ret
          exact ⟨by rw [hf.out]; rfl, hB⟩
      · obtain rfl : k = n := by omega
        have hf : Hid (fewB l = true) := Lib.hid (by rw [HF.out, ← List.take_of_length_le (Nat.le_of_eq HN.out)]; exact ht.out)
        clear h hlc
        go_wp2_with fail
        go_ret
        exact ⟨by rw [hf.out]; rfl, hB⟩
  · have hf : Hid (fewB l = false) := Lib.hid (by unfold fewB; rw [HN.out, decide_eq_false h60]; rfl)
    have d1 : decide ((n : Int) > 60) = true := decide_eq_true (by omega)
    have d2 : decide (60 < (n : Int)) = true := decide_eq_true (by omega)
    clear h
    go_enter Try.func7, Try.ntmps7
    go_wp2_with fail
    go_ret
    exact ⟨by rw [hf.out]; rfl, Below.refl _ _⟩

/-! ### spoil -/
theorem CmdsAt.size {w : World} {h : Nat} {cur : Array Value} {t : TypeId} {fr : Nat × Nat} {l : List (Nat × Int)} (hh : w.heap[h]? = some (.cells cur t fr)) (hc : CmdsAt w (some ⟨h, 0, none⟩) l) : 2 * l.length ≤ cur.size := by
  rcases hc.2 with rfl | ⟨b, off, e, hcell⟩
  · simp
  · cases e
    rcases Nat.eq_zero_or_pos l.length with h0 | h0
    · omega
    · have := (hcell (l.length - 1) _ (List.getElem?_eq_getElem (by omega))).2
      unfold World.cell? at this
      rw [hh] at this
      simp only [Nat.zero_add] at this
      have h2 := (Array.getElem?_eq_some_iff.1 (by simpa using this)).1
      omega
theorem MyIn.form {w : World} {B : Nat} {a : Option Addr} (h : MyIn w B a) : a = none ∨ ∃ h cur, a = some ⟨h, 0, none⟩ ∧ B ≤ h ∧ w.heap[h]? = some (.cells cur 70 (0, 0)) := by unfold MyIn at h; exact h
theorem Only.bar {g : Nat} {w w' : World} {a : Option Addr} (h : Only g w w') (ha : a = some ⟨g, 0, none⟩) : Bar (Blk a) w w' := (Bar.of_only h).mono fun _ hk => ⟨_, ha, hk.symm⟩

set_option maxHeartbeats 1000000 in
theorem spoil_is (I : In) (ch cy : Int) (a : Option Addr) (cap B : Nat) (w : World) (hm : MyIn w B a) (h : InAt w a cap I) :
    Calls Try.prog 16 #[.agg #[.int .i64 ch, .int .i64 cy, .int .u64 (I.o : Int), .int .u32 (I.n : Int), .int .u32 (I.r : Int), .slice a I.c.length cap]] w
      fun e w' => e = .returned (.tuple #[]) ∧ Bar (Blk a) w w' := by
  have hlen := In.len h.ok
  have hc := h.cmds
  obtain ⟨n, hn⟩ : ∃ n, n = I.c.length := ⟨_, rfl⟩
  rw [← hn] at hlen ⊢
  have hform := hm.form
  have k0 := heap_new1 w (Obj.cells #[.int .i64 ch, .int .i64 cy, .int .u64 (I.o : Int), .int .u32 (I.n : Int), .int .u32 (I.r : Int), .slice a n cap] 35)
  have hb0 := below1 w (Obj.cells #[.int .i64 ch, .int .i64 cy, .int .u64 (I.o : Int), .int .u32 (I.n : Int), .int .u32 (I.r : Int), .slice a n cap] 35)
  rcases hform with rfl | ⟨g, cur, rfl, hg, hheap⟩
  · have hn0 : I.c = [] := by
      rcases hc.2 with h | ⟨b, off, h, _⟩
      · exact h
      · cases h
    obtain rfl : n = 0 := by rw [hn, hn0]; rfl
    clear hc h hm hn hn0 hlen
    go_enter Try.func16, Try.ntmps16
    go_wp2_with fail
    go_loopg [2] 0 (fun _ i wr => i = .int .i64 0 ∧ wr = w.alloc (Obj.cells #[.int .i64 ch, .int .i64 cy, .int .u64 (I.o : Int), .int .u32 (I.n : Int), .int .u32 (I.r : Int), .slice none 0 cap] 35))
    case atStart => exact ⟨rfl, rfl⟩
    case round =>
      obtain ⟨rfl, rfl⟩ := hrel
      go_wp2_with fail
      go_end0
      exact ⟨rfl, Bar.of_below hb0⟩
  · have hsz : 2 * n ≤ cur.size := by rw [hn]; exact CmdsAt.size hheap hc
    have hgl : g < w.heap.size := blk_lt hheap
    have hheap1 := blk_keep hb0 hheap
    clear hc h hm hheap hn
    go_enter Try.func16, Try.ntmps16
    go_wp2_with fail
    go_loopg [2] n (fun m i wr => ∃ k C, k + m = n ∧ i = .int .i64 (k : Nat) ∧ wr.heap[g]? = some (.cells C 70 (0, 0)) ∧ C.size = cur.size ∧ wr.heap[w.heap.size]? = some (Obj.cells #[.int .i64 ch, .int .i64 cy, .int .u64 (I.o : Int), .int .u32 (I.n : Int), .int .u32 (I.r : Int), .slice (some ⟨g, 0, none⟩) n cap] 35) ∧ Only g w wr)
    case atStart => exact ⟨0, cur, by omega, rfl, hheap1, rfl, k0, Only.of_below hb0⟩
    case round =>
      obtain ⟨k, C, hk, rfl, hC, hCs, hR, ho⟩ := hrel
      have e5 := blk_cell hR 5 _ rfl
      by_cases hkn : k < n
      · have d1 : (k : Int) < n := by omega
        have hi : k * 2 + 1 < C.size := by omega
        have e6 := blk_cell hC (k * 2 + 1) _ (Array.getElem?_eq_getElem hi)
        have f6 := blk_free hC (k * 2 + 1)
        have hC2 := blk_set hC (k * 2 + 1) (.int .i64 (-9))
        have hR2 := blk_set_other hR (k * 2 + 1) (.int .i64 (-9)) (k := g) (by omega)
        have ho2 := ho.setCell (p := ⟨g, k * 2 + 1, none⟩) rfl (.int .i64 (-9))
        have hs2 : (C.setIfInBounds (k * 2 + 1) (.int .i64 (-9))).size = cur.size := by rw [Array.size_setIfInBounds]; exact hCs
        clear hC hR k0 hheap1
        go_wp2_with fail
        go_roundg (n - (k + 1))
        case rel => exact ⟨k + 1, _, by omega, by go_num, hC2, hs2, hR2, ho2⟩
        case measure => omega
      · obtain rfl : k = n := by omega
        clear hC hR k0 hheap1
        go_wp2_with fail
        go_end0
        exact ⟨rfl, ho.bar rfl⟩
end Go.Proofs.Ytbbacmlcimgjbaa
