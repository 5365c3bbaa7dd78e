/-
  Walks: slices.Concat of two rows, of numbers and of needs.
-/
import Derived.Test.YtdkcpejlojdijaaToK
namespace Go.Proofs.Ytdkcpejlojdijaa
open Go.RowKit

set_option maxRecDepth 100000 in
set_option maxHeartbeats 4000000 in
theorem concat_int2 (g : Nat) (t : TypeId) (fr : Nat × Nat) (a1 a2 : Option Addr) (m1 c1 m2 c2 : Nat) (l1 l2 : List Int) (w : World) (hg : w.heap[g]? = some (.cells #[.slice a1 m1 c1, .slice a2 m2 c2] t fr)) (hS1 : SrcAt w a1 c1 (l1.flatMap intC)) (hS2 : SrcAt w a2 c2 (l2.flatMap intC)) (hl1 : l1.length = m1) (hl2 : l2.length = m2) (hle : m1 + m2 ≤ 100000) :
    Calls Try.prog 24 #[.slice (some ⟨g, 0, none⟩) 2 2] w fun e w' => ∃ a n c, e = .returned (.slice a n c) ∧ n = m1 + m2 ∧ SlAt 1 intC w' ⟨a, c, l1 ++ l2⟩ ∧ Below w.heap.size w w' ∧ NewRow 1 w.heap.size w' a n := by
  have HG := Lib.hid hg
  have HS1 := Lib.hid hS1
  have HS2 := Lib.hid hS2
  have HL := Lib.hid (And.intro hl1 hl2)
  have HLE := Lib.hid hle
  obtain ⟨i0, hi, hz0, hz1, hz2⟩ := info_parts info_int
  have HI := Lib.hid (And.intro hi (And.intro hz0 (And.intro hz1 hz2)))
  have x0 := blk_cell hg 0 _ rfl
  have x1 := blk_cell hg 1 _ rfl
  have e1 : wrap64 (m1 : Int) = m1 := by unfold wrap64; omega
  have e2 : wrap64 ((m1 : Int) + (m2 : Int)) = (m1 : Int) + (m2 : Int) := by unfold wrap64; omega
  have n1 : ¬ (m1 : Int) < 0 := by omega
  have n2 : ¬ (m1 : Int) + (m2 : Int) < 0 := by omega
  have p1 : (0 : Int) ≤ (m1 : Int) := by omega
  have p2 : (0 : Int) ≤ (m1 : Int) + (m2 : Int) := by omega
  clear hi hz0 hz1 hz2 hS1 hS2 hl1 hl2 hle hg
  go_enter Try.func24, Try.ntmps24
  go_wp2_with fail
  go_loopg [3, 5, 11] 2 (fun q s _ i wr => (q = 2 ∧ i = .int .i64 0 ∧ s = .int .i64 0 ∧ w = wr) ∨ (q = 1 ∧ i = .int .i64 1 ∧ s = .int .i64 (m1 : Int) ∧ w = wr) ∨ (q = 0 ∧ i = .int .i64 2 ∧ s = .int .i64 ((m1 : Int) + (m2 : Int)) ∧ w = wr))
  case atStart => exact .inl ⟨rfl, rfl, rfl, rfl⟩
  case round =>
    rcases hrel with ⟨rfl, rfl, rfl, rfl⟩ | ⟨rfl, rfl, rfl, rfl⟩ | ⟨rfl, rfl, rfl, rfl⟩
    · go_wp2_with fail
      go_roundg 1
      case rel => exact .inr (.inl ⟨rfl, by go_num, by first | rfl | go_num | simp [e1], rfl⟩)
      case measure => omega
    · go_wp2_with fail
      go_roundg 0
      case rel => exact .inr (.inr ⟨rfl, by go_num, by first | rfl | go_num | simp [e2], rfl⟩)
      case measure => omega
    · go_wp2_with fail
      have hgr := grow_int (m1 + m2) HLE.out w
      rw [Int.natCast_add] at hgr
      refine hgr.mono ?_
      rintro e w1 ⟨v0, rfl, hO, hb⟩
      have HO := Lib.hid hO
      have HB := Lib.hid hb
      clear hgr hO hb x0 x1 n1 n2 p1 p2 e1 e2
      have x0 := blk_cell (blk_keep HB.out HG.out) 0 _ rfl
      have x1 := blk_cell (blk_keep HB.out HG.out) 1 _ rfl
      go_wp2_with fail
      clear x0 x1
      go_loopg [6, 8, 27] 2 (fun q v _ i wr => (q = 2 ∧ i = .int .i64 0 ∧ wr.ownsRow w.heap.size 3 1 v 0 [] ∧ Below w.heap.size w wr) ∨ (q = 1 ∧ i = .int .i64 1 ∧ wr.ownsRow w.heap.size 3 1 v m1 (l1.flatMap intC) ∧ Below w.heap.size w wr) ∨ (q = 0 ∧ i = .int .i64 2 ∧ wr.ownsRow w.heap.size 3 1 v (m1 + m2) ((l1 ++ l2).flatMap intC) ∧ Below w.heap.size w wr))
      case atStart => exact .inl ⟨rfl, rfl, HO.out, HB.out⟩
      case round =>
        clear HO HB
        rcases hrel with ⟨rfl, rfl, hO, hb⟩ | ⟨rfl, rfl, hO, hb⟩ | ⟨rfl, rfl, hO, hb⟩
        · have HO := Lib.hid hO
          have HB := Lib.hid hb
          have HSS := Lib.hid (srcAt_below HS1.out hb)
          have x0 := blk_cell (blk_keep hb HG.out) 0 _ rfl
          have x1 := blk_cell (blk_keep hb HG.out) 1 _ rfl
          clear hO hb
          go_wp2_with (at_builtin; refine wpList_append_src rfl _ _ 22 rfl w.heap.size 3 i0 (.int .i64 0) 1 8 Try.underlying22 HI.out.1 HI.out.2.1 HI.out.2.2.1 HI.out.2.2.2 rfl (by decide) _ 0 [] rfl HO.out a1 m1 c1 (l1.flatMap intC) rfl (by rw [flat_len int_len, HL.out.1]) HSS.out (by have := HLE.out; unfold maxLen; omega) (by have := HLE.out; omega) HB.out.size ?_; intro v5 W5 hown5 hg5)
          have hB5 := HB.out.grown hg5 HB.out.size (fun k hk => (HO.out.lt _ hk).1)
          rw [List.nil_append, Nat.zero_add] at hown5
          go_roundg 1
          case rel => exact .inr (.inl ⟨rfl, by go_num, hown5, hB5⟩)
          case measure => omega
        · have HO := Lib.hid hO
          have HB := Lib.hid hb
          have HSS := Lib.hid (srcAt_below HS2.out hb)
          have x0 := blk_cell (blk_keep hb HG.out) 0 _ rfl
          have x1 := blk_cell (blk_keep hb HG.out) 1 _ rfl
          clear hO hb
          go_wp2_with (at_builtin; refine wpList_append_src rfl _ _ 22 rfl w.heap.size 3 i0 (.int .i64 0) 1 8 Try.underlying22 HI.out.1 HI.out.2.1 HI.out.2.2.1 HI.out.2.2.2 rfl (by decide) _ m1 (l1.flatMap intC) rfl HO.out a2 m2 c2 (l2.flatMap intC) rfl (by rw [flat_len int_len, HL.out.2]) HSS.out (by have := HLE.out; unfold maxLen; omega) (by have := HLE.out; omega) HB.out.size ?_; intro v5 W5 hown5 hg5)
          have hB5 := HB.out.grown hg5 HB.out.size (fun k hk => (HO.out.lt _ hk).1)
          rw [← List.flatMap_append] at hown5
          go_roundg 0
          case rel => exact .inr (.inr ⟨rfl, by go_num, hown5, hB5⟩)
          case measure => omega
        · obtain ⟨a5, c5, rfl, hS5, hN5⟩ := own_sl2 int_len (by rw [List.length_append, HL.out.1, HL.out.2]) hO
          have HS5 := Lib.hid hS5
          have HN5 := Lib.hid hN5
          have HB := Lib.hid hb
          clear hO hb hS5 hN5
          go_wp2_with fail
          go_ret
          exact ⟨a5, _, c5, rfl, rfl, HS5.out, HB.out, HN5.out⟩
theorem concat_int (g : Nat) (t : TypeId) (fr : Nat × Nat) (a1 a2 : Option Addr) (m1 c1 m2 c2 : Nat) (l1 l2 : List Int) (w : World) (hg : w.heap[g]? = some (.cells #[.slice a1 m1 c1, .slice a2 m2 c2] t fr)) (hS1 : SrcAt w a1 c1 (l1.flatMap intC)) (hS2 : SrcAt w a2 c2 (l2.flatMap intC)) (hl1 : l1.length = m1) (hl2 : l2.length = m2) (hle : m1 + m2 ≤ 100000) :
    Calls Try.prog 24 #[.slice (some ⟨g, 0, none⟩) 2 2] w fun e w' => ∃ a n c, e = .returned (.slice a n c) ∧ n = m1 + m2 ∧ SlAt 1 intC w' ⟨a, c, l1 ++ l2⟩ ∧ Below w.heap.size w w' :=
  (concat_int2 g t fr a1 a2 m1 c1 m2 c2 l1 l2 w hg hS1 hS2 hl1 hl2 hle).mono (fun _ _ ⟨a, n, c, h1, h2, h3, h4, _⟩ => ⟨a, n, c, h1, h2, h3, h4⟩)

set_option maxRecDepth 100000 in
set_option maxHeartbeats 4000000 in
theorem concat_nd2 (g : Nat) (t : TypeId) (fr : Nat × Nat) (a1 a2 : Option Addr) (m1 c1 m2 c2 : Nat) (l1 l2 : List (Int × Bool)) (w : World) (hg : w.heap[g]? = some (.cells #[.slice a1 m1 c1, .slice a2 m2 c2] t fr)) (hS1 : SrcAt w a1 c1 (l1.flatMap ndC)) (hS2 : SrcAt w a2 c2 (l2.flatMap ndC)) (hl1 : l1.length = m1) (hl2 : l2.length = m2) (hle : m1 + m2 ≤ 100000) :
    Calls Try.prog 25 #[.slice (some ⟨g, 0, none⟩) 2 2] w fun e w' => ∃ a n c, e = .returned (.slice a n c) ∧ n = m1 + m2 ∧ SlAt 2 ndC w' ⟨a, c, l1 ++ l2⟩ ∧ Below w.heap.size w w' ∧ NewRow 2 w.heap.size w' a n := by
  have HG := Lib.hid hg
  have HS1 := Lib.hid hS1
  have HS2 := Lib.hid hS2
  have HL := Lib.hid (And.intro hl1 hl2)
  have HLE := Lib.hid hle
  obtain ⟨i0, hi, hz0, hz1, hz2⟩ := info_parts info_nd
  have HI := Lib.hid (And.intro hi (And.intro hz0 (And.intro hz1 hz2)))
  have x0 := blk_cell hg 0 _ rfl
  have x1 := blk_cell hg 1 _ rfl
  have e1 : wrap64 (m1 : Int) = m1 := by unfold wrap64; omega
  have e2 : wrap64 ((m1 : Int) + (m2 : Int)) = (m1 : Int) + (m2 : Int) := by unfold wrap64; omega
  have n1 : ¬ (m1 : Int) < 0 := by omega
  have n2 : ¬ (m1 : Int) + (m2 : Int) < 0 := by omega
  have p1 : (0 : Int) ≤ (m1 : Int) := by omega
  have p2 : (0 : Int) ≤ (m1 : Int) + (m2 : Int) := by omega
  clear hi hz0 hz1 hz2 hS1 hS2 hl1 hl2 hle hg
  go_enter Try.func25, Try.ntmps25
  go_wp2_with fail
  go_loopg [3, 5, 11] 2 (fun q s _ i wr => (q = 2 ∧ i = .int .i64 0 ∧ s = .int .i64 0 ∧ w = wr) ∨ (q = 1 ∧ i = .int .i64 1 ∧ s = .int .i64 (m1 : Int) ∧ w = wr) ∨ (q = 0 ∧ i = .int .i64 2 ∧ s = .int .i64 ((m1 : Int) + (m2 : Int)) ∧ w = wr))
  case atStart => exact .inl ⟨rfl, rfl, rfl, rfl⟩
  case round =>
    rcases hrel with ⟨rfl, rfl, rfl, rfl⟩ | ⟨rfl, rfl, rfl, rfl⟩ | ⟨rfl, rfl, rfl, rfl⟩
    · go_wp2_with fail
      go_roundg 1
      case rel => exact .inr (.inl ⟨rfl, by go_num, by first | rfl | go_num | simp [e1], rfl⟩)
      case measure => omega
    · go_wp2_with fail
      go_roundg 0
      case rel => exact .inr (.inr ⟨rfl, by go_num, by first | rfl | go_num | simp [e2], rfl⟩)
      case measure => omega
    · go_wp2_with fail
      have hgr := grow_nd (m1 + m2) HLE.out w
      rw [Int.natCast_add] at hgr
      refine hgr.mono ?_
      rintro e w1 ⟨v0, rfl, hO, hb⟩
      have HO := Lib.hid hO
      have HB := Lib.hid hb
      clear hgr hO hb x0 x1 n1 n2 p1 p2 e1 e2
      have x0 := blk_cell (blk_keep HB.out HG.out) 0 _ rfl
      have x1 := blk_cell (blk_keep HB.out HG.out) 1 _ rfl
      go_wp2_with fail
      clear x0 x1
      go_loopg [6, 8, 27] 2 (fun q v _ i wr => (q = 2 ∧ i = .int .i64 0 ∧ wr.ownsRow w.heap.size 32 2 v 0 [] ∧ Below w.heap.size w wr) ∨ (q = 1 ∧ i = .int .i64 1 ∧ wr.ownsRow w.heap.size 32 2 v m1 (l1.flatMap ndC) ∧ Below w.heap.size w wr) ∨ (q = 0 ∧ i = .int .i64 2 ∧ wr.ownsRow w.heap.size 32 2 v (m1 + m2) ((l1 ++ l2).flatMap ndC) ∧ Below w.heap.size w wr))
      case atStart => exact .inl ⟨rfl, rfl, HO.out, HB.out⟩
      case round =>
        clear HO HB
        rcases hrel with ⟨rfl, rfl, hO, hb⟩ | ⟨rfl, rfl, hO, hb⟩ | ⟨rfl, rfl, hO, hb⟩
        · have HO := Lib.hid hO
          have HB := Lib.hid hb
          have HSS := Lib.hid (srcAt_below HS1.out hb)
          have x0 := blk_cell (blk_keep hb HG.out) 0 _ rfl
          have x1 := blk_cell (blk_keep hb HG.out) 1 _ rfl
          clear hO hb
          go_wp2_with (at_builtin; refine wpList_append_src rfl _ _ 23 rfl w.heap.size 32 i0 (.agg #[.int .i64 0, .bool false]) 2 16 Try.underlying23 HI.out.1 HI.out.2.1 HI.out.2.2.1 HI.out.2.2.2 rfl (by decide) _ 0 [] rfl HO.out a1 m1 c1 (l1.flatMap ndC) rfl (by rw [flat_len nd_len, HL.out.1]) HSS.out (by have := HLE.out; unfold maxLen; omega) (by have := HLE.out; omega) HB.out.size ?_; intro v5 W5 hown5 hg5)
          have hB5 := HB.out.grown hg5 HB.out.size (fun k hk => (HO.out.lt _ hk).1)
          rw [List.nil_append, Nat.zero_add] at hown5
          go_roundg 1
          case rel => exact .inr (.inl ⟨rfl, by go_num, hown5, hB5⟩)
          case measure => omega
        · have HO := Lib.hid hO
          have HB := Lib.hid hb
          have HSS := Lib.hid (srcAt_below HS2.out hb)
          have x0 := blk_cell (blk_keep hb HG.out) 0 _ rfl
          have x1 := blk_cell (blk_keep hb HG.out) 1 _ rfl
          clear hO hb
          go_wp2_with (at_builtin; refine wpList_append_src rfl _ _ 23 rfl w.heap.size 32 i0 (.agg #[.int .i64 0, .bool false]) 2 16 Try.underlying23 HI.out.1 HI.out.2.1 HI.out.2.2.1 HI.out.2.2.2 rfl (by decide) _ m1 (l1.flatMap ndC) rfl HO.out a2 m2 c2 (l2.flatMap ndC) rfl (by rw [flat_len nd_len, HL.out.2]) HSS.out (by have := HLE.out; unfold maxLen; omega) (by have := HLE.out; omega) HB.out.size ?_; intro v5 W5 hown5 hg5)
          have hB5 := HB.out.grown hg5 HB.out.size (fun k hk => (HO.out.lt _ hk).1)
          rw [← List.flatMap_append] at hown5
          go_roundg 0
          case rel => exact .inr (.inr ⟨rfl, by go_num, hown5, hB5⟩)
          case measure => omega
        · obtain ⟨a5, c5, rfl, hS5, hN5⟩ := own_sl2 nd_len (by rw [List.length_append, HL.out.1, HL.out.2]) hO
          have HS5 := Lib.hid hS5
          have HN5 := Lib.hid hN5
          have HB := Lib.hid hb
          clear hO hb hS5 hN5
          go_wp2_with fail
          go_ret
          exact ⟨a5, _, c5, rfl, rfl, HS5.out, HB.out, HN5.out⟩
theorem concat_nd (g : Nat) (t : TypeId) (fr : Nat × Nat) (a1 a2 : Option Addr) (m1 c1 m2 c2 : Nat) (l1 l2 : List (Int × Bool)) (w : World) (hg : w.heap[g]? = some (.cells #[.slice a1 m1 c1, .slice a2 m2 c2] t fr)) (hS1 : SrcAt w a1 c1 (l1.flatMap ndC)) (hS2 : SrcAt w a2 c2 (l2.flatMap ndC)) (hl1 : l1.length = m1) (hl2 : l2.length = m2) (hle : m1 + m2 ≤ 100000) :
    Calls Try.prog 25 #[.slice (some ⟨g, 0, none⟩) 2 2] w fun e w' => ∃ a n c, e = .returned (.slice a n c) ∧ n = m1 + m2 ∧ SlAt 2 ndC w' ⟨a, c, l1 ++ l2⟩ ∧ Below w.heap.size w w' :=
  (concat_nd2 g t fr a1 a2 m1 c1 m2 c2 l1 l2 w hg hS1 hS2 hl1 hl2 hle).mono (fun _ _ ⟨a, n, c, h1, h2, h3, h4, _⟩ => ⟨a, n, c, h1, h2, h3, h4⟩)
end Go.Proofs.Ytdkcpejlojdijaa
