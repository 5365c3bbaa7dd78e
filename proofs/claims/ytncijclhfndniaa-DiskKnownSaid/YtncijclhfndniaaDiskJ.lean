/-
  Chapter 14: the calls that come in; the walk of 'large'.
-/
import Derived.Test.YtncijclhfndniaaDiskI
namespace Go.Proofs.Ytncijclhfndniaa
open Go.RowKit
attribute [local irreducible] byteVals

/-- a call: its kind, its block, its bytes, its fates -/
structure Cl where
  k : Nat
  i : Int
  a : Option Addr
  c : Nat
  b : List Nat
  fa : Option Addr
  fc : Nat
  f : List Nat
def RowIn (w : World) (a : Option Addr) (c : Nat) (l : List Nat) : Prop := l.length ≤ maxLen ∧ BytesAt w a l ∧ (a = none → c = 0) ∧ ∀ b o, a = some ⟨b, o, none⟩ → l ≠ [] → b < w.heap.size
theorem RowIn.below {w w' : World} {a : Option Addr} {c : Nat} {l : List Nat} (hb : Below w.heap.size w w') (h : RowIn w a c l) : RowIn w' a c l :=
  ⟨h.1, h.2.1.below hb, h.2.2.1, fun b o hx hl => Nat.lt_of_lt_of_le (h.2.2.2 b o hx hl) hb.size⟩
def ClAt (w : World) (c : Cl) : Prop := c.k < 256 ∧ (-9223372036854775808 ≤ c.i ∧ c.i ≤ 9223372036854775807) ∧ RowIn w c.a c.c c.b ∧ RowIn w c.fa c.fc c.f
theorem ClAt.below {w w' : World} {c : Cl} (hb : Below w.heap.size w w') (h : ClAt w c) : ClAt w' c := ⟨h.1, h.2.1, h.2.2.1.below hb, h.2.2.2.below hb⟩
def ClsAt (w : World) (a : Option Addr) (l : List Cl) : Prop := (∀ c ∈ l, ClAt w c) ∧ (l = [] ∨ ∃ b off, a = some ⟨b, off, none⟩ ∧ ∀ i c, l[i]? = some c → w.cell? ⟨b, off + i * 4, none⟩ = some (.int .u8 (c.k : Int)) ∧ w.cell? ⟨b, off + i * 4 + 1, none⟩ = some (.int .i64 c.i) ∧ w.cell? ⟨b, off + i * 4 + 2, none⟩ = some (.slice c.a c.b.length c.c) ∧ w.cell? ⟨b, off + i * 4 + 3, none⟩ = some (.slice c.fa c.f.length c.fc))
theorem ClsAt.below {w w' : World} {a : Option Addr} {l : List Cl} (hb : Below w.heap.size w w') (h : ClsAt w a l) : ClsAt w' a l := by
  refine ⟨fun c hc => (h.1 c hc).below hb, h.2.imp id ?_⟩
  rintro ⟨b, off, rfl, hc⟩
  refine ⟨b, off, rfl, fun i c hi => ?_⟩
  obtain ⟨h0, h1, h2, h3⟩ := hc i c hi
  exact ⟨cell_later hb h0, cell_later hb h1, cell_later hb h2, cell_later hb h3⟩
theorem u8_nat {a : Int} (h : (Lit.int .u8 a).wf = true) : ∃ n : Nat, a = n ∧ n < 256 := by have := bounds_u8 h; exact ⟨a.toNat, by omega, by omega⟩
theorem bytes_of {w : World} {x : Value} (h : Rd Try.prog w 29 [x]) : ∃ (a : Option Addr) (c : Nat) (l : List Nat), x = .slice a l.length c ∧ RowIn w a c l := by
  rcases h.slice Try.underlying29 with h | ⟨y, n, c, h, hlc, hcm, hel⟩
  · simp at h
    exact ⟨none, 0, [], h, Nat.zero_le _, ⟨(by simp), .inl rfl⟩, fun _ => rfl, fun b o hy => by cases hy⟩
  · simp at h
    have hsz : Try.prog.cellsOf 5 = 1 := by kernel_rfl
    have H : ∀ i, i < n → ∃ v : Nat, v < 256 ∧ w.cell? ((y.add (i * 1)).add 0) = some (.int .u8 (v : Int)) := by
      intro i hi
      obtain ⟨ecs, he, hr⟩ := hel i (by omega)
      rw [hsz] at he
      obtain ⟨v, rfl, hw⟩ := hr.int Try.underlying5
      obtain ⟨v, rfl, hv⟩ := u8_nat hw
      obtain ⟨_, hg⟩ := cells_get he
      obtain ⟨v0, g0, c0⟩ := hg 0 (by omega)
      simp at g0
      subst g0
      exact ⟨v, hv, c0⟩
    obtain ⟨l, hl, hq⟩ := list_of n H
    have hl256 : ∀ c ∈ l, c < 256 := fun c hc => by
      obtain ⟨i, hi⟩ := List.getElem?_of_mem hc
      exact (hq i c hi).1
    have key : l = [] ∨ ∃ b off, y = ⟨b, off, none⟩ ∧ (∀ (i v : Nat), l[i]? = some v → w.cell? ⟨b, off + i, none⟩ = some (.int .u8 (v : Int))) ∧ b < w.heap.size := by
      rcases l with _ | ⟨v0, l⟩
      · exact .inl rfl
      · right
        have h0 := (hq 0 v0 rfl).2
        have hs : y.spot = none := World.cell?_spot (show w.cell? y = some _ by simpa [Addr.add] using h0)
        obtain ⟨b, off, spot⟩ := y
        subst hs
        refine ⟨b, off, rfl, fun i v hi => ?_, ?_⟩
        · have := (hq i v hi).2
          simpa only [Addr.add_lit, Nat.add_zero, Nat.mul_one] using this
        · have := World.block_lt_of_cell? _ _ h0
          simpa [Addr.add] using this
    refine ⟨some y, c, l, by rw [h, hl], by rw [hl]; exact Nat.le_trans hlc hcm, ⟨hl256, ?_⟩, (fun h => by cases h), ?_⟩
    · rcases key with h | ⟨b, off, rfl, h1, h2⟩
      · exact .inl h
      · refine .inr ⟨b, off, rfl, fun i hi => h1 i _ ?_⟩
        rw [List.getD_eq_getElem?_getD, List.getElem?_eq_getElem hi]; rfl
    · rintro b' o' hz hne
      cases hz
      rcases key with h | ⟨b, off, e, h1, h2⟩
      · exact absurd h hne
      · cases e; exact h2
theorem i64_bounds {a : Int} (h : (Lit.int .i64 a).wf = true) : -9223372036854775808 ≤ a ∧ a ≤ 9223372036854775807 := by
  have := bounds_i64 h; omega
theorem cl_of {w : World} {cs : List Value} (h : Rd Try.prog w 32 cs) : ∃ c : Cl, cs = [.int .u8 (c.k : Int), .int .i64 c.i, .slice c.a c.b.length c.c, .slice c.fa c.f.length c.fc] ∧ ClAt w c := by
  obtain ⟨hl, hf⟩ := h.fields (L := [(5, 0), (3, 1), (29, 2), (29, 3)]) (by kernel_rfl) (by kernel_rfl)
  rw [show Try.prog.cellsOf 32 = 4 by kernel_rfl] at hl
  match cs, hl with
  | [x, y, z, u], _ =>
    have h0 := hf (5, 0) (by simp)
    have h1 := hf (3, 1) (by simp)
    have h2 := hf (29, 2) (by simp)
    have h3 := hf (29, 3) (by simp)
    simp only [show Try.prog.cellsOf 5 = 1 by kernel_rfl, show Try.prog.cellsOf 3 = 1 by kernel_rfl, show Try.prog.cellsOf 29 = 1 by kernel_rfl] at h0 h1 h2 h3
    obtain ⟨a, ha, wa⟩ := h0.int Try.underlying5
    obtain ⟨b, hb, wb⟩ := h1.int Try.underlying3
    obtain ⟨pa, c, l, hz, g1⟩ := bytes_of (x := z) (by simpa using h2)
    obtain ⟨pb, d, l', hu, g2⟩ := bytes_of (x := u) (by simpa using h3)
    simp at ha hb
    obtain ⟨k, rfl, hk⟩ := u8_nat wa
    exact ⟨⟨k, b, pa, c, l, pb, d, l'⟩, by rw [ha, hb, hz, hu], hk, i64_bounds wb, g1, g2⟩
theorem cls_of {w : World} {a : Option Addr} {len cap : Nat} (h : Rd Try.prog w 22 [.slice a len cap]) : ∃ l : List Cl, l.length = len ∧ len ≤ maxLen ∧ ClsAt w a l := by
  rcases h.slice Try.underlying22 with h | ⟨x, n, c, h, hlc, hcm, hel⟩
  · simp only [List.cons.injEq, Value.slice.injEq, and_true] at h
    obtain ⟨rfl, rfl, rfl⟩ := h
    exact ⟨[], rfl, Nat.zero_le _, (by intro c hc; simp at hc), .inl rfl⟩
  · simp only [List.cons.injEq, Value.slice.injEq, and_true] at h
    obtain ⟨rfl, rfl, rfl⟩ := h
    have hsz : Try.prog.cellsOf 32 = 4 := by kernel_rfl
    have H : ∀ i, i < len → ∃ c : Cl, ClAt w c ∧ w.cell? ((x.add (i * 4)).add 0) = some (.int .u8 (c.k : Int)) ∧ w.cell? ((x.add (i * 4)).add 1) = some (.int .i64 c.i) ∧ w.cell? ((x.add (i * 4)).add 2) = some (.slice c.a c.b.length c.c) ∧ w.cell? ((x.add (i * 4)).add 3) = some (.slice c.fa c.f.length c.fc) := by
      intro i hi
      obtain ⟨ecs, he, hr⟩ := hel i (by omega)
      rw [hsz] at he
      obtain ⟨c, rfl, hcl⟩ := cl_of hr
      obtain ⟨_, hg⟩ := cells_get he
      obtain ⟨v0, g0, c0⟩ := hg 0 (by omega)
      obtain ⟨v1, g1, c1⟩ := hg 1 (by omega)
      obtain ⟨v2, g2, c2⟩ := hg 2 (by omega)
      obtain ⟨v3, g3, c3⟩ := hg 3 (by omega)
      simp at g0 g1 g2 g3
      subst g0 g1 g2 g3
      exact ⟨c, hcl, c0, c1, c2, c3⟩
    obtain ⟨l, hl, hq⟩ := list_of len H
    refine ⟨l, hl, Nat.le_trans hlc hcm, fun c hc => ?_, ?_⟩
    · obtain ⟨i, hi⟩ := List.getElem?_of_mem hc
      exact (hq i c hi).1
    · rcases l with _ | ⟨c0, l⟩
      · exact .inl rfl
      · right
        have h0 := (hq 0 c0 rfl).2.1
        have hs : x.spot = none := World.cell?_spot (show w.cell? x = some _ by simpa [Addr.add] using h0)
        obtain ⟨b, off, spot⟩ := x
        subst hs
        refine ⟨b, off, rfl, fun i c hi => ?_⟩
        have := (hq i c hi).2
        simpa only [Addr.add_lit, Nat.add_zero] using this
def LargePost (l : List Cl) (w : World) (e : Ending) (w' : World) : Prop := ∃ B, e = .returned (.bool B) ∧ (B = false → l.length ≤ 80 ∧ ∀ (j : Nat) c, l[j]? = some c → c.b.length ≤ 6000 ∧ c.f.length ≤ 6000) ∧ Below w.heap.size w w'

set_option maxHeartbeats 2000000 in
theorem large_any (a : Option Addr) (n cap : Nat) (l : List Cl) (w : World) (hn : l.length = n) (hm : n ≤ maxLen) (hl : ClsAt w a l) : Calls Try.prog 6 #[.slice a n cap] w (LargePost l w) := by
  have hm' : (n : Int) ≤ 9223372036854775807 := by unfold maxLen at hm; omega
  have HN := Lib.hid hn
  clear hn
  by_cases h300 : 80 < n
  · go_enter Try.func6, Try.ntmps6
    go_wp2_with fail
    go_ret
    exact ⟨true, rfl, (by intro h; cases h), Below.refl _ _⟩
  go_enter Try.func6, Try.ntmps6
  go_wp2_with fail
  go_loopw [3, 4] (fun s i wr => ∃ (k m : Nat), k ≤ n ∧ m ≤ 12000 ∧ i = .int .i64 k ∧ s = .int .i64 m ∧ Hid (∀ (j : Nat) c, j < k → l[j]? = some c → c.b.length ≤ 6000 ∧ c.f.length ≤ 6000) ∧ Below w.heap.size w wr) (fun _ i _ => n - (intOf i).toNat)
  case atStart => exact ⟨0, 0, by omega, by omega, rfl, rfl, Lib.hid (fun j c h => by omega), Below.refl _ _⟩
  case round =>
    obtain ⟨k, m, hk, hm3, rfl, rfl, hall, hB⟩ := hrel
    by_cases hlt : k < n
    · rcases (hl.below hB).2 with hnil | ⟨b, off, rfl, hcells⟩
      · rw [hnil] at HN; exact absurd HN.out (by simp; omega)
      obtain ⟨c, hc⟩ : ∃ c, l[k]? = some c := ⟨_, List.getElem?_eq_getElem (by rw [HN.out]; exact hlt)⟩
      obtain ⟨z0, z1, z2, z3⟩ := hcells k c hc
      obtain ⟨_, _, hcb, hcf⟩ := hl.1 c (List.mem_of_getElem? hc)
      have hcm := hcb.1
      have hfm := hcf.1
      unfold maxLen at hcm hfm
      have d1 : (0 : Int) ≤ k := by omega
      have d2 : (k : Int) < n := by omega
      have d3 : (0 : Int) ≤ m := by omega
      have d4 : (m : Int) ≤ 12000 := by omega
      have HC := Lib.hid hc
      obtain ⟨nb, hnb⟩ : ∃ nb, nb = c.b.length := ⟨_, rfl⟩
      obtain ⟨nf, hnf⟩ : ∃ nf, nf = c.f.length := ⟨_, rfl⟩
      rw [← hnb] at z2 hcm
      rw [← hnf] at z3 hfm
      have HNB := Lib.hid hnb
      have HNF := Lib.hid hnf
      clear hcells hc hnb hnf hcb hcf
      by_cases hbig : (6000 : Int) - m < nb
      · have e1 : decide ((6000 : Int) - m < nb) = true := decide_eq_true hbig
        clear hcm hfm
        go_wp2_with fail
        go_ret
        exact ⟨true, rfl, (by intro h; cases h), hB⟩
      · have e1 : decide ((6000 : Int) - m < nb) = false := decide_eq_false hbig
        by_cases hbig2 : (6000 : Int) - m < nf
        · have e2 : decide ((6000 : Int) - m < nf) = true := decide_eq_true hbig2
          clear hcm hfm
          go_wp2_with fail
          go_ret
          exact ⟨true, rfl, (by intro h; cases h), hB⟩
        · have e2 : decide ((6000 : Int) - m < nf) = false := decide_eq_false hbig2
          have f1 : IntKind.i64.wrap ((m : Int) + nb) = (m : Int) + nb := IntWalk.i64_in _ (by omega)
          have f2 : IntKind.i64.wrap ((m : Int) + nb + nf) = (m : Int) + nb + nf := IntWalk.i64_in _ (by omega)
          have HA : Hid (m + nb + nf ≤ 12000 ∧ c.b.length ≤ 6000 ∧ c.f.length ≤ 6000) := Lib.hid (by rw [← HNB.out, ← HNF.out]; omega)
          clear hcm hfm hbig hbig2
          go_wp2_with fail
          go_quiet (fail)
          go_wp2_with fail
          go_roundw
          case rel => exact ⟨k + 1, m + nb + nf, by omega, HA.out.1, by go_num, by go_num, Lib.hid (fun j d hj hd => by
            rcases Nat.lt_or_ge j k with h | h
            · exact hall.out j d h hd
            · obtain rfl : j = k := by omega
              rw [HC.out] at hd; cases hd; exact HA.out.2), below_drewN hB _⟩
          case measure => simp [intOf]; omega
    · obtain rfl : k = n := by omega
      by_cases h6 : 6000 < m
      · go_wp2_with fail
        go_ret
        exact ⟨true, by simp; omega, (by intro h; cases h), hB⟩
      · go_wp2_with fail
        go_ret
        exact ⟨false, by simp; omega, (fun _ => ⟨by rw [HN.out]; omega, fun j c hc => hall.out j c (by have := (List.getElem?_eq_some_iff.1 hc).1; rw [HN.out] at this; exact this) hc⟩), hB⟩
end Go.Proofs.Ytncijclhfndniaa
