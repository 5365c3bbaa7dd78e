/-
  Walks of the statement ExecPlays of chapter 19.
-/
import Derived.Test.YtaonkcfmlgaobaaExecPick
import Derived.Test.YtaonkcfmlgaobaaCalm
import Derived.Deep.RegionHeld3
namespace Go.Proofs.Ytaonkcfmlgaobaa
open Go.RowKit
attribute [local irreducible] ESt.tick ESt.done ESt.reset ESt.left ESt.pick badB

/-- a call: its kind, its phase, its picks -/
structure Cl where
  k : Nat
  ph : Int
  a : Option Addr
  n : Nat
  c : Nat
  l : List Int
def ClAt (w : World) (c : Cl) : Prop := c.k < 256 ∧ c.l.length = c.n ∧ c.n ≤ maxLen ∧ IntsAt w c.a c.l ∧ (∀ x, c.a = some x → c.l ≠ [] → x.block < w.heap.size)
theorem ClAt.below {w w' : World} {c : Cl} (hb : Below w.heap.size w w') (h : ClAt w c) : ClAt w' c :=
  ⟨h.1, h.2.1, h.2.2.1, h.2.2.2.1.below hb, fun x hx hl => Nat.lt_of_lt_of_le (h.2.2.2.2 x hx hl) hb.size⟩
def ClsAt (w : World) (a : Option Addr) (l : List Cl) : Prop := (∀ c ∈ l, ClAt w c) ∧ (l = [] ∨ ∃ b off, a = some ⟨b, off, none⟩ ∧ ∀ i c, l[i]? = some c → w.cell? ⟨b, off + i * 3, none⟩ = some (.int .u8 (c.k : Int)) ∧ w.cell? ⟨b, off + i * 3 + 1, none⟩ = some (.int .i64 c.ph) ∧ w.cell? ⟨b, off + i * 3 + 2, none⟩ = some (.slice c.a c.n c.c))
theorem ClsAt.below {w w' : World} {a : Option Addr} {l : List Cl} (hb : Below w.heap.size w w') (h : ClsAt w a l) : ClsAt w' a l := by
  refine ⟨fun c hc => (h.1 c hc).below hb, h.2.imp id ?_⟩
  rintro ⟨b, off, rfl, hc⟩
  refine ⟨b, off, rfl, fun i c hi => ?_⟩
  obtain ⟨h0, h1, h2⟩ := hc i c hi
  exact ⟨cell_later hb h0, cell_later hb h1, cell_later hb h2⟩
theorem u8_nat {a : Int} (h : (Lit.int .u8 a).wf = true) : ∃ n : Nat, a = n ∧ n < 256 := by have := bounds_u8 h; exact ⟨a.toNat, by omega, by omega⟩
theorem ints_of {w : World} {x : Value} (h : Rd Try.prog w 33 [x]) : ∃ (a : Option Addr) (n c : Nat) (l : List Int), x = .slice a n c ∧ l.length = n ∧ n ≤ maxLen ∧ IntsAt w a l ∧ (∀ y, a = some y → l ≠ [] → y.block < w.heap.size) := by
  rcases h.slice Try.underlying33 with h | ⟨y, n, c, h, hlc, hcm, hel⟩
  · simp at h
    exact ⟨none, 0, 0, [], h, rfl, Nat.zero_le _, .inl rfl, fun y hy => by cases hy⟩
  · simp at h
    have hsz : Try.prog.cellsOf 3 = 1 := by kernel_rfl
    have H : ∀ i, i < n → ∃ v : Int, w.cell? ((y.add (i * 1)).add 0) = some (.int .i64 v) := by
      intro i hi
      obtain ⟨ecs, he, hr⟩ := hel i (by omega)
      rw [hsz] at he
      obtain ⟨v, rfl, _⟩ := hr.int Try.underlying3
      obtain ⟨_, hg⟩ := cells_get he
      obtain ⟨v0, g0, c0⟩ := hg 0 (by omega)
      simp at g0
      subst g0
      exact ⟨v, c0⟩
    obtain ⟨l, hl, hq⟩ := list_of n H
    have key : l = [] ∨ ∃ b off, y = ⟨b, off, none⟩ ∧ (∀ i v, l[i]? = some v → w.cell? ⟨b, off + i, none⟩ = some (.int .i64 v)) ∧ b < w.heap.size := by
      rcases l with _ | ⟨v0, l⟩
      · exact .inl rfl
      · right
        have h0 := hq 0 v0 rfl
        have hs : y.spot = none := World.cell?_spot (show w.cell? y = some _ by simpa [Addr.add] using h0)
        obtain ⟨b, off, spot⟩ := y
        subst hs
        refine ⟨b, off, rfl, fun i v hi => ?_, ?_⟩
        · have := hq i v hi
          simpa only [Addr.add_lit, Nat.add_zero, Nat.mul_one] using this
        · have := World.block_lt_of_cell? _ _ h0
          simpa [Addr.add] using this
    refine ⟨some y, n, c, l, h, hl, Nat.le_trans hlc hcm, ?_, ?_⟩
    · rcases key with h | ⟨b, off, rfl, h1, h2⟩
      · exact .inl h
      · exact .inr ⟨b, off, rfl, h1⟩
    · rintro z hz hne
      cases hz
      rcases key with h | ⟨b, off, rfl, h1, h2⟩
      · exact absurd h hne
      · exact h2
theorem cl_of {w : World} {cs : List Value} (h : Rd Try.prog w 35 cs) : ∃ c : Cl, cs = [.int .u8 (c.k : Int), .int .i64 c.ph, .slice c.a c.n c.c] ∧ ClAt w c := by
  obtain ⟨hl, hf⟩ := h.fields (L := [(5, 0), (3, 1), (33, 2)]) (by kernel_rfl) (by kernel_rfl)
  rw [show Try.prog.cellsOf 35 = 3 by kernel_rfl] at hl
  match cs, hl with
  | [x, y, z], _ =>
    have h0 := hf (5, 0) (by simp)
    have h1 := hf (3, 1) (by simp)
    have h2 := hf (33, 2) (by simp)
    simp only [show Try.prog.cellsOf 5 = 1 by kernel_rfl, show Try.prog.cellsOf 3 = 1 by kernel_rfl, show Try.prog.cellsOf 33 = 1 by kernel_rfl] at h0 h1 h2
    obtain ⟨a, ha, wa⟩ := h0.int Try.underlying5
    obtain ⟨b, hb, wb⟩ := h1.int Try.underlying3
    obtain ⟨pa, n, c, l, hz, g1, g2, g3, g4⟩ := ints_of (x := z) (by simpa using h2)
    simp at ha hb
    obtain ⟨k, rfl, hk⟩ := u8_nat wa
    exact ⟨⟨k, b, pa, n, c, l⟩, by rw [ha, hb, hz], hk, g1, g2, g3, g4⟩
theorem cls_of {w : World} {a : Option Addr} {len cap : Nat} (h : Rd Try.prog w 22 [.slice a len cap]) : ∃ l : List Cl, l.length = len ∧ len ≤ maxLen ∧ ClsAt w a l := by
  rcases h.slice Try.underlying22 with h | ⟨x, n, c, h, hlc, hcm, hel⟩
  · simp only [List.cons.injEq, Value.slice.injEq, and_true] at h
    obtain ⟨rfl, rfl, rfl⟩ := h
    exact ⟨[], rfl, Nat.zero_le _, (by intro c hc; simp at hc), .inl rfl⟩
  · simp only [List.cons.injEq, Value.slice.injEq, and_true] at h
    obtain ⟨rfl, rfl, rfl⟩ := h
    have hsz : Try.prog.cellsOf 35 = 3 := by kernel_rfl
    have H : ∀ i, i < len → ∃ c : Cl, ClAt w c ∧ w.cell? ((x.add (i * 3)).add 0) = some (.int .u8 (c.k : Int)) ∧ w.cell? ((x.add (i * 3)).add 1) = some (.int .i64 c.ph) ∧ w.cell? ((x.add (i * 3)).add 2) = some (.slice c.a c.n c.c) := by
      intro i hi
      obtain ⟨ecs, he, hr⟩ := hel i (by omega)
      rw [hsz] at he
      obtain ⟨c, rfl, hcl⟩ := cl_of hr
      obtain ⟨_, hg⟩ := cells_get he
      obtain ⟨v0, g0, c0⟩ := hg 0 (by omega)
      obtain ⟨v1, g1, c1⟩ := hg 1 (by omega)
      obtain ⟨v2, g2, c2⟩ := hg 2 (by omega)
      simp at g0 g1 g2
      subst g0 g1 g2
      exact ⟨c, hcl, c0, c1, c2⟩
    obtain ⟨l, hl, hq⟩ := list_of len H
    refine ⟨l, hl, Nat.le_trans hlc hcm, fun c hc => ?_, ?_⟩
    · obtain ⟨i, hi⟩ := List.getElem?_of_mem hc
      exact (hq i c hi).1
    · rcases l with _ | ⟨c0, l⟩
      · exact .inl rfl
      · right
        have h0 := (hq 0 c0 rfl).2.1
        have hs : x.spot = none := World.cell?_spot (show w.cell? x = some _ by simpa [Addr.add] using h0)
        obtain ⟨b, off, spot⟩ := x
        subst hs
        refine ⟨b, off, rfl, fun i c hi => ?_⟩
        have := (hq i c hi).2
        simpa only [Addr.add_lit, Nat.add_zero] using this
def FewPost (l : List Cl) (w : World) (e : Ending) (w' : World) : Prop := ∃ B, e = .returned (.bool B) ∧ (B = true → l.length ≤ 300 ∧ ∀ (j : Nat) c, l[j]? = some c → c.n ≤ 3000) ∧ w = w'

set_option maxHeartbeats 2000000 in
theorem few_any (a : Option Addr) (n cap : Nat) (l : List Cl) (w : World) (hn : l.length = n) (hm : n ≤ maxLen) (hl : ClsAt w a l) : Calls Try.prog 5 #[.slice a n cap] w (FewPost l w) := by
  have hm' : (n : Int) ≤ 9223372036854775807 := by unfold maxLen at hm; omega
  have HN := Lib.hid hn
  clear hn
  by_cases h300 : 300 < n
  · go_enter Try.func5, Try.ntmps5
    go_wp2_with fail
    go_ret
    exact ⟨false, rfl, (by intro h; cases h), rfl⟩
  go_enter Try.func5, Try.ntmps5
  go_wp2_with fail
  go_loopw [3, 4] (fun s i wr => ∃ (k m : Nat), k ≤ n ∧ m ≤ 3000 ∧ i = .int .i64 k ∧ s = .int .i64 m ∧ Hid (∀ (j : Nat) c, j < k → l[j]? = some c → c.n ≤ 3000) ∧ w = wr) (fun _ i _ => n - (intOf i).toNat)
  case atStart => exact ⟨0, 0, by omega, by omega, rfl, rfl, Lib.hid (fun j c h => by omega), rfl⟩
  case round =>
    obtain ⟨k, m, hk, hm3, rfl, rfl, hall, rfl⟩ := hrel
    by_cases hlt : k < n
    · rcases hl.2 with hnil | ⟨b, off, rfl, hcells⟩
      · rw [hnil] at HN; exact absurd HN.out (by simp; omega)
      obtain ⟨c, hc⟩ : ∃ c, l[k]? = some c := ⟨_, List.getElem?_eq_getElem (by rw [HN.out]; exact hlt)⟩
      obtain ⟨z0, z1, z2⟩ := hcells k c hc
      have hcm := (hl.1 c (List.mem_of_getElem? hc)).2.2.1
      unfold maxLen at hcm
      have d1 : (0 : Int) ≤ k := by omega
      have d2 : (k : Int) < n := by omega
      have d3 : (0 : Int) ≤ m := by omega
      have d4 : (m : Int) ≤ 3000 := by omega
      have HC := Lib.hid hc
      clear hcells hc
      by_cases hbig : (3000 : Int) - m < c.n
      · have e1 : decide ((3000 : Int) - m < c.n) = true := decide_eq_true hbig
        clear hcm
        go_wp2_with fail
        go_ret
        exact ⟨false, rfl, (by intro h; cases h), rfl⟩
      · have e1 : decide ((3000 : Int) - m < c.n) = false := decide_eq_false hbig
        have e2 : (m : Int) + c.n ≤ 3000 := by omega
        have e3 : (0 : Int) ≤ (m : Int) + c.n := by omega
        clear hcm
        go_wp2_with fail
        go_roundw
        case rel => exact ⟨k + 1, m + c.n, by omega, by omega, by go_num, by go_num, Lib.hid (fun j d hj hd => by
          rcases Nat.lt_or_ge j k with h | h
          · exact hall.out j d h hd
          · obtain rfl : j = k := by omega
            rw [HC.out] at hd; cases hd; omega), by trivial⟩
        case measure => simp [intOf]; omega
    · obtain rfl : k = n := by omega
      go_wp2_with fail
      go_ret
      exact ⟨true, rfl, (fun _ => ⟨by rw [HN.out]; omega, fun j c hc => hall.out j c (by have := (List.getElem?_eq_some_iff.1 hc).1; rw [HN.out] at this; exact this) hc⟩), rfl⟩
end Go.Proofs.Ytaonkcfmlgaobaa
