/-
  The walk of 'both' of chapter 20's statements; readings that were sent.
-/
import Derived.Test.YtbbacmlcimgjbaaAgWorks
import Derived.Test.YtbbacmlcimgjbaaAgRead
import Derived.Deep.CutRange
import Derived.Deep.RegionHeld3
namespace Go.Proofs.Ytbbacmlcimgjbaa
open Go.RowKit
attribute [local irreducible] shortB fewB In.ok InAt MyIn LongAt In.same both cmdCells SideAt OptAt RdAt RSideAt CellsAt In.merge

/-- a reading that was sent -/
structure Rdg where
  ch : Int
  cy : Int
  I : In
  a : Option Addr
  cap : Nat
def RdgsAt (w : World) (a : Option Addr) (L : List Rdg) : Prop := (∀ r ∈ L, InAt w r.a r.cap r.I) ∧ (L = [] ∨ ∃ b, a = some ⟨b, 0, none⟩ ∧ ∀ i r, L[i]? = some r →
  w.cell? ⟨b, i * 6, none⟩ = some (.int .i64 r.ch) ∧ w.cell? ⟨b, i * 6 + 1, none⟩ = some (.int .i64 r.cy) ∧ w.cell? ⟨b, i * 6 + 2, none⟩ = some (.int .u64 (r.I.o : Int)) ∧
  w.cell? ⟨b, i * 6 + 3, none⟩ = some (.int .u32 (r.I.n : Int)) ∧ w.cell? ⟨b, i * 6 + 4, none⟩ = some (.int .u32 (r.I.r : Int)) ∧ w.cell? ⟨b, i * 6 + 5, none⟩ = some (.slice r.a r.I.c.length r.cap))
theorem RdgsAt.below {w w' : World} {a : Option Addr} {L : List Rdg} (hb : Below w.heap.size w w') (h : RdgsAt w a L) : RdgsAt w' a L := by
  refine ⟨fun r hr => (h.1 r hr).below hb, h.2.imp id ?_⟩
  rintro ⟨b, rfl, hc⟩
  refine ⟨b, rfl, fun i r hi => ?_⟩
  obtain ⟨h0, h1, h2, h3, h4, h5⟩ := hc i r hi
  exact ⟨cell_later hb h0, cell_later hb h1, cell_later hb h2, cell_later hb h3, cell_later hb h4, cell_later hb h5⟩
theorem RdgsAt.at {w : World} {a : Option Addr} {L : List Rdg} (h : RdgsAt w a L) {i : Nat} {r : Rdg} (hi : L[i]? = some r) : InAt w r.a r.cap r.I ∧ ∃ b, a = some ⟨b, 0, none⟩ ∧
  w.cell? ⟨b, i * 6, none⟩ = some (.int .i64 r.ch) ∧ w.cell? ⟨b, i * 6 + 1, none⟩ = some (.int .i64 r.cy) ∧ w.cell? ⟨b, i * 6 + 2, none⟩ = some (.int .u64 (r.I.o : Int)) ∧
  w.cell? ⟨b, i * 6 + 3, none⟩ = some (.int .u32 (r.I.n : Int)) ∧ w.cell? ⟨b, i * 6 + 4, none⟩ = some (.int .u32 (r.I.r : Int)) ∧ w.cell? ⟨b, i * 6 + 5, none⟩ = some (.slice r.a r.I.c.length r.cap) := by
  refine ⟨h.1 r (List.mem_of_getElem? hi), ?_⟩
  obtain ⟨b, rfl, hc⟩ := h.2.resolve_left (by rintro rfl; simp at hi)
  exact ⟨b, rfl, hc i r hi⟩

def RdB (r : Rdg) : Obj := .cells #[.int .i64 r.ch, .int .i64 r.cy, .int .u64 (r.I.o : Int), .int .u32 (r.I.n : Int), .int .u32 (r.I.r : Int), .slice r.a r.I.c.length r.cap] 35 (0, 0)

set_option maxRecDepth 100000 in
set_option maxHeartbeats 4000000 in
theorem both_is (L : List Rdg) (a : Option Addr) (n cap : Nat) (cy : Int) (M : In) (am : Option Addr) (cm : Nat) (i0 k0 : Nat) (r0 r1 : Rdg) (w : World) (hn : L.length = n) (hn1 : n ≤ 1000) (hL : RdgsAt w a L) (hM : InAt w am cm M)
    (h0 : L[i0]? = some r0) (h1 : L[k0]? = some r1) (c0 : r0.ch = 0) (c1 : r1.ch = 1) (y0 : r0.cy = cy) (y1 : r1.cy = cy) (hm : M = r0.I.merge r1.I) :
    Calls Try.prog 24 #[.slice a n cap, .int .i64 cy, .agg #[.int .u64 (M.o : Int), .int .u32 (M.n : Int), .int .u32 (M.r : Int), .slice am M.c.length cm]] w fun e w' => e = .returned (.bool true) ∧ Below w.heap.size w w' := by
  have hi0 : i0 < n := by rw [← hn]; exact (List.getElem?_eq_some_iff.1 h0).1
  have hk0 : k0 < n := by rw [← hn]; exact (List.getElem?_eq_some_iff.1 h1).1
  have HN := Lib.hid hn
  have HKEY : Hid (∀ (i k : Nat) (ri rk : Rdg), L[i]? = some ri → L[k]? = some rk → i = i0 → k = k0 → ri.ch = 0 ∧ rk.ch = 1 ∧ ri.cy = cy ∧ rk.cy = cy ∧ M.same (ri.I.merge rk.I) = true) := Lib.hid (by
    intro i k ri rk e1 e2 e3 e4
    subst e3 e4
    rw [h0] at e1; rw [h1] at e2
    cases e1; cases e2
    exact ⟨c0, c1, y0, y1, by rw [hm]; exact In.same_refl _⟩)
  have HL := Lib.hid hL
  have hlc : ∀ r ∈ L, r.I.c.length ≤ 1000 := fun r hr => In.len (hL.1 r hr).ok
  clear hn h0 h1 c0 c1 y0 y1 hm hL hlc
  go_enter Try.func24, Try.ntmps24
  go_wp2_with fail
  refine name_world ?_
  intro W hW
  have km : W.heap[w.heap.size]? = some (.cells #[.int .u64 (M.o : Int), .int .u32 (M.n : Int), .int .u32 (M.r : Int), .slice am M.c.length cm] 33 (0, 0)) := by rw [hW]; exact heap_new1 _ _
  have hbW : Below w.heap.size w W := by rw [hW]; exact below1 _ _
  obtain ⟨zm, hzm⟩ : ∃ zm, zm = w.heap.size := ⟨_, rfl⟩
  rw [← hzm] at km ⊢
  have HBW := Lib.hid hbW
  have HKM := Lib.hid km
  have HM := Lib.hid hM
  clear hW hzm km hM hbW
  go_loopg [7] n (fun m i wr => ∃ k : Nat, k + m = n ∧ i = .int .i64 (k : Nat) ∧ k ≤ i0 ∧ Below W.heap.size W wr)
  case atStart => exact ⟨0, by omega, rfl, by omega, Below.refl _ _⟩
  case round =>
    obtain ⟨i, hi, rfl, hii, hB⟩ := hrel
    have hin : i < n := by omega
    have d1 : (i : Int) < n := by omega
    obtain ⟨wq, rfl⟩ : ∃ wq, wq = wr := ⟨_, rfl⟩
    go_wp2_with fail
    go_loopg [8] n (fun m k wr => ∃ q : Nat, q + m = n ∧ k = .int .i64 (q : Nat) ∧ (i = i0 → q ≤ k0) ∧ Below W.heap.size W wr)
    case atStart => exact ⟨0, by omega, rfl, by omega, hB⟩
    case round =>
      obtain ⟨q, hq, rfl, hqq, hB2⟩ := hrel
      by_cases hqn : q < n
      · have d2 : (q : Int) < n := by omega
        obtain ⟨ri, hri⟩ : ∃ r, L[i]? = some r := ⟨_, List.getElem?_eq_getElem (by rw [HN.out]; exact hin)⟩
        obtain ⟨rk, hrk⟩ : ∃ r, L[q]? = some r := ⟨_, List.getElem?_eq_getElem (by rw [HN.out]; exact hqn)⟩
        have HK := Lib.hid (HKEY.out i q ri rk hri hrk)
        have hB3 := below_on HBW.out hB2
        obtain ⟨hii', b, hab, a0, a1, a2, a3, a4, a5⟩ := (HL.out.below hB3).at hri
        obtain ⟨hik', b', hab', b0, b1, b2, b3, b4, b5⟩ := (HL.out.below hB3).at hrk
        rw [hab] at hab'
        cases hab'
        have hbl : b < wr.heap.size := World.block_lt_of_cell? _ ⟨b, i * 6, none⟩ a0
        clear hri hrk
        subst hab
        go_upto_region 7 with fail
        go_cut [9, 10] from 23 to 59 (fun s9 s10 wx => ∃ z9 z10 : Nat, s9 = .pointer (some ⟨z9, 0, none⟩) ∧ s10 = .pointer (some ⟨z10, 0, none⟩) ∧ wx.heap[z9]? = some (RdB ri) ∧ wx.heap[z10]? = some (RdB rk) ∧ Below wr.heap.size wr wx)
        case first =>
          go_region
          all_goals go_wp2_with fail
          all_goals go_meet
          all_goals first
            | exact ⟨_, _, rfl, rfl, (two_new _ _ _).1, (two_new _ _ _).2, below2 _ _ _⟩
            | exact ⟨_, _, rfl, rfl, (two_new _ _ _).2, (two_new _ _ _).1, below2 _ _ _⟩
        case rest =>
        obtain ⟨z9, z10, rfl, rfl, k9, k10, hbc⟩ := hcut
        unfold RdB at k9 k10
        have hB4 := hB2.trans (hbc.mono hB2.size)
        have kmc := blk_keep hB4 HKM.out
        have hMc := HM.out.below (below_on HBW.out hB4)
        have hii2 := hii'.below hbc
        have hik2 := hik'.below hbc
        have a0 := blk_cell k9 0 _ rfl
        have a1 := blk_cell k9 1 _ rfl
        have a2 := blk_cell k9 2 _ rfl
        have a3 := blk_cell k9 3 _ rfl
        have a4 := blk_cell k9 4 _ rfl
        have a5 := blk_cell k9 5 _ rfl
        have b0 := blk_cell k10 0 _ rfl
        have b1 := blk_cell k10 1 _ rfl
        have b2 := blk_cell k10 2 _ rfl
        have b3 := blk_cell k10 3 _ rfl
        have b4 := blk_cell k10 4 _ rfl
        have b5 := blk_cell k10 5 _ rfl
        have m0 := blk_cell kmc 0 _ rfl
        have m1 := blk_cell kmc 1 _ rfl
        have m2 := blk_cell kmc 2 _ rfl
        have m3 := blk_cell kmc 3 _ rfl
        clear hii' hik' hB2 hB3 hbc hB hbl
        have HB4 := Lib.hid hB4
        have hfin : ¬ (i = i0 ∧ q = k0) → (i = i0 → q + 1 ≤ k0) := fun h e => by have := hqq e; have : ¬ q = k0 := fun e2 => h ⟨e, e2⟩; omega
        go_wp2_with fail
        by_cases u1 : ri.ch = 0
        rotate_left
        · have hno : ¬ (i = i0 ∧ q = k0) := fun ⟨x1, x2⟩ => by have := HK.out x1 x2; omega
          have hnx := hfin hno
          have v1 : (ri.ch == 0) = false := by simpa using u1
          clear hno hfin k9 k10 kmc hMc hii2 hik2 hB4
          go_quiet (fail)
          go_wp2_with fail
          go_roundg (n - (q + 1))
          case rel => exact ⟨q + 1, by omega, by go_num, hnx, below_drewN HB4.out _⟩
          case measure => omega
        have v1 : (ri.ch == 0) = true := by simpa using u1
        by_cases u2 : rk.ch = 1
        rotate_left
        · have hno : ¬ (i = i0 ∧ q = k0) := fun ⟨x1, x2⟩ => by have := HK.out x1 x2; omega
          have hnx := hfin hno
          have v2 : (rk.ch == 1) = false := by simpa using u2
          clear hno hfin k9 k10 kmc hMc hii2 hik2 hB4
          go_quiet (fail)
          go_wp2_with fail
          go_roundg (n - (q + 1))
          case rel => exact ⟨q + 1, by omega, by go_num, hnx, below_drewN HB4.out _⟩
          case measure => omega
        have v2 : (rk.ch == 1) = true := by simpa using u2
        by_cases u3 : ri.cy = cy
        rotate_left
        · have hno : ¬ (i = i0 ∧ q = k0) := fun ⟨x1, x2⟩ => by have := HK.out x1 x2; omega
          have hnx := hfin hno
          have v3 : (ri.cy == cy) = false := by simpa using u3
          clear hno hfin k9 k10 kmc hMc hii2 hik2 hB4
          go_quiet (fail)
          go_wp2_with fail
          go_roundg (n - (q + 1))
          case rel => exact ⟨q + 1, by omega, by go_num, hnx, below_drewN HB4.out _⟩
          case measure => omega
        have v3 : (ri.cy == cy) = true := by simpa using u3
        by_cases u4 : rk.cy = cy
        rotate_left
        · have hno : ¬ (i = i0 ∧ q = k0) := fun ⟨x1, x2⟩ => by have := HK.out x1 x2; omega
          have hnx := hfin hno
          have v4 : (rk.cy == cy) = false := by simpa using u4
          clear hno hfin k9 k10 kmc hMc hii2 hik2 hB4
          go_quiet (fail)
          go_wp2_with fail
          go_roundg (n - (q + 1))
          case rel => exact ⟨q + 1, by omega, by go_num, hnx, below_drewN HB4.out _⟩
          case measure => omega
        have v4 : (rk.cy == cy) = true := by simpa using u4
        clear u1 u2 u3 u4
        have hBd := hB4.drew
        have SS : Hid (∀ w', Below wc.heap.size wc w' → (w'.cell? ⟨z9, 0, none⟩ = some (.int .i64 ri.ch) ∧ w'.cell? ⟨z9, 1, none⟩ = some (.int .i64 ri.cy) ∧ w'.cell? ⟨z9, 2, none⟩ = some (.int .u64 (ri.I.o : Int)) ∧ w'.cell? ⟨z9, 3, none⟩ = some (.int .u32 (ri.I.n : Int)) ∧ w'.cell? ⟨z9, 4, none⟩ = some (.int .u32 (ri.I.r : Int)) ∧ w'.cell? ⟨z9, 5, none⟩ = some (.slice ri.a ri.I.c.length ri.cap) ∧
            w'.cell? ⟨z10, 0, none⟩ = some (.int .i64 rk.ch) ∧ w'.cell? ⟨z10, 1, none⟩ = some (.int .i64 rk.cy) ∧ w'.cell? ⟨z10, 2, none⟩ = some (.int .u64 (rk.I.o : Int)) ∧ w'.cell? ⟨z10, 3, none⟩ = some (.int .u32 (rk.I.n : Int)) ∧ w'.cell? ⟨z10, 4, none⟩ = some (.int .u32 (rk.I.r : Int)) ∧ w'.cell? ⟨z10, 5, none⟩ = some (.slice rk.a rk.I.c.length rk.cap) ∧
            w'.cell? ⟨zm, 0, none⟩ = some (.int .u64 (M.o : Int)) ∧ w'.cell? ⟨zm, 1, none⟩ = some (.int .u32 (M.n : Int)) ∧ w'.cell? ⟨zm, 2, none⟩ = some (.int .u32 (M.r : Int)) ∧ w'.cell? ⟨zm, 3, none⟩ = some (.slice am M.c.length cm))) := Lib.hid (fun w' hw' => by
          have k9 := blk_keep hw' k9
          have k10 := blk_keep hw' k10
          have kmc := blk_keep hw' kmc
          exact ⟨blk_cell k9 0 _ rfl, blk_cell k9 1 _ rfl, blk_cell k9 2 _ rfl, blk_cell k9 3 _ rfl, blk_cell k9 4 _ rfl, blk_cell k9 5 _ rfl, blk_cell k10 0 _ rfl, blk_cell k10 1 _ rfl, blk_cell k10 2 _ rfl, blk_cell k10 3 _ rfl, blk_cell k10 4 _ rfl, blk_cell k10 5 _ rfl, blk_cell kmc 0 _ rfl, blk_cell kmc 1 _ rfl, blk_cell kmc 2 _ rfl, blk_cell kmc 3 _ rfl⟩)
        have gB0 := (Below.refl wc.heap.size wc).drew
        clear a0 a1 a2 a3 a4 a5 b0 b1 b2 b3 b4 b5 m0 m1 m2 m3 k9 k10 kmc
        go_region_held3 (fun w' => w'.cell? ⟨z9, 0, none⟩ = some (.int .i64 ri.ch) ∧ w'.cell? ⟨z9, 1, none⟩ = some (.int .i64 ri.cy) ∧ w'.cell? ⟨z9, 2, none⟩ = some (.int .u64 (ri.I.o : Int)) ∧ w'.cell? ⟨z9, 3, none⟩ = some (.int .u32 (ri.I.n : Int)) ∧ w'.cell? ⟨z9, 4, none⟩ = some (.int .u32 (ri.I.r : Int)) ∧ w'.cell? ⟨z9, 5, none⟩ = some (.slice ri.a ri.I.c.length ri.cap) ∧
            w'.cell? ⟨z10, 0, none⟩ = some (.int .i64 rk.ch) ∧ w'.cell? ⟨z10, 1, none⟩ = some (.int .i64 rk.cy) ∧ w'.cell? ⟨z10, 2, none⟩ = some (.int .u64 (rk.I.o : Int)) ∧ w'.cell? ⟨z10, 3, none⟩ = some (.int .u32 (rk.I.n : Int)) ∧ w'.cell? ⟨z10, 4, none⟩ = some (.int .u32 (rk.I.r : Int)) ∧ w'.cell? ⟨z10, 5, none⟩ = some (.slice rk.a rk.I.c.length rk.cap) ∧
            w'.cell? ⟨zm, 0, none⟩ = some (.int .u64 (M.o : Int)) ∧ w'.cell? ⟨zm, 1, none⟩ = some (.int .u32 (M.n : Int)) ∧ w'.cell? ⟨zm, 2, none⟩ = some (.int .u32 (M.r : Int)) ∧ w'.cell? ⟨zm, 3, none⟩ = some (.slice am M.c.length cm))
          (first
            | with_reducible exact SS.out _ gB2
            | with_reducible exact SS.out _ gB1
            | with_reducible exact SS.out _ gB0)
          (first
            | ((with_reducible refine (refmerge_in ri.I rk.I ri.a rk.a ri.cap rk.cap _ (hii2.below gB0) (hik2.below gB0)).mono ?_); rintro e w5 ⟨a5, c5, rfl, _, hi5, hb5⟩; have gB1 := gB0.trans (hb5.mono gB0.size))
            | ((with_reducible refine (refsame_in M (ri.I.merge rk.I) am a5 cm c5 _ (hMc.below gB1) hi5).mono ?_); rintro e w6 ⟨rfl, hb6⟩; have gB2 := gB1.trans (hb6.mono gB1.size)))
        have hB6 := HB4.out.trans (gB2.mono HB4.out.size)
        cases hs : M.same (ri.I.merge rk.I) with
        | true =>
          go_wp2_with fail
          try rw [Exit.noGoto_ret]
          go_ret
          exact ⟨rfl, below_on HBW.out hB6⟩
        | false =>
          have hno : ¬ (i = i0 ∧ q = k0) := fun ⟨x1, x2⟩ => by have := (HK.out x1 x2).2.2.2.2; rw [hs] at this; cases this
          have hnx := hfin hno
          go_wp2_with fail
          go_roundg (n - (q + 1))
          case rel => exact ⟨q + 1, by omega, by go_num, hnx, hB6⟩
          case measure => omega
      · obtain rfl : q = n := by omega
        go_wp2_with fail
        go_roundg (q - (i + 1))
        case rel => exact ⟨i + 1, by omega, by go_num, by omega, hB2⟩
        case measure => omega
end Go.Proofs.Ytbbacmlcimgjbaa
