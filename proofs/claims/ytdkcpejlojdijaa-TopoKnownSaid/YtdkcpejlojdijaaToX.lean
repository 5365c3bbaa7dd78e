/-
  Layer 05: which layouts are well-formed (plainly); topo.Check.
-/
import Derived.Test.YtdkcpejlojdijaaToV
namespace Go.Proofs.Ytdkcpejlojdijaa
open Go.RowKit

theorem belowB_mem {n : Nat} {l : List Int} (h : belowB n l = true) : ∀ x ∈ l, 0 ≤ x ∧ x < (n : Int) := by
  unfold belowB at h
  rw [List.all_eq_true] at h
  exact fun x hx => of_decide_eq_true (h x hx)
/-- what a layout that may be says of its routes -/
structure RtOk (L : Lay) (r : Rt) : Prop where
  s0 : 0 ≤ r.sg
  s1 : r.sg < (L.sg.l.length : Int)
  pa : r.pa.l.length ≤ 16
  ov : r.ov.l.length ≤ 16
  po : r.po.l.length ≤ 16
  fl : r.fl.l.length ≤ 16
  pb : belowB L.se.l.length r.pa.l = true
  ob : belowB L.se.l.length r.ov.l = true
  qb : belowB L.po.l.length (r.po.l.map (·.1)) = true
  fb : belowB L.po.l.length (r.fl.l.map (·.1)) = true
theorem mayS_rt {L : Lay} (h : mayS L = true) : ∀ r ∈ L.rt.l, RtOk L r := by
  intro r hr
  unfold mayS rtsFrom at h
  simp only [Bool.and_eq_true] at h
  obtain ⟨_, _, ⟨_, h1⟩, h2⟩ := h
  have a := belowB_mem h1 r.sg (List.mem_map.2 ⟨r, hr, rfl⟩)
  rw [List.all_eq_true] at h2
  have b := h2 r hr
  unfold rtB mayB at b
  simp only [Bool.and_eq_true, decide_eq_true_eq] at b
  obtain ⟨⟨⟨⟨b1, b2⟩, b3⟩, b4⟩, ⟨b5, b6⟩, b7, b8⟩ := b
  exact ⟨a.1, a.2, b1, b2, b5, b7, b3, b4, b6, b8⟩
/-- the first route that is not well-formed; -1: there is none -/
def badS (L : Lay) : Int := ixF (fun r => !formedS L r) 0 L.rt.l
def checkS (L : Lay) : Int × Int := if mayS L then (if 0 ≤ badS L then (50, badS L) else (0, 0)) else (2, 0)
def routeS (L : Lay) (n : Int) : Int := if mayS L then (if n < 0 ∨ (L.rt.l.length : Int) ≤ n then 5 else (match L.rt.l[n.toNat]? with | some r => if formedS L r then 0 else 50 | none => 5)) else 2
theorem cs_no {L : Lay} (h : mayS L = false) : checkS L = (2, 0) := by unfold checkS; rw [h]; rfl
theorem cs_bad {L : Lay} {z : Int} (h : mayS L = true) (hz : badS L = z) (h0 : 0 ≤ z) : checkS L = (50, z) := by unfold checkS; rw [h, hz, if_pos rfl, if_pos h0]
theorem cs_ok {L : Lay} {z : Int} (h : mayS L = true) (hz : badS L = z) (h0 : ¬ 0 ≤ z) : checkS L = (0, 0) := by unfold checkS; rw [h, hz, if_pos rfl, if_neg h0]
theorem rs_no {L : Lay} {n : Int} (h : mayS L = false) : routeS L n = 2 := by unfold routeS; rw [h]; rfl
theorem rs_none {L : Lay} {n : Int} (h : mayS L = true) (h0 : n < 0 ∨ (L.rt.l.length : Int) ≤ n) : routeS L n = 5 := by unfold routeS; rw [h, if_pos rfl, if_pos h0]
theorem rs_at {L : Lay} {k : Nat} {r : Rt} (h : mayS L = true) (hk : L.rt.l[k]? = some r) : routeS L (k : Int) = if formedS L r then 0 else 50 := by
  have h1 := (List.getElem?_eq_some_iff.1 hk).1
  unfold routeS
  rw [h, if_pos rfl, if_neg (by omega), Int.toNat_natCast, hk]
attribute [local irreducible] hasI hasP dupI dupN okPt okPts secOf formedS Sl.v cntI ixF mayS

set_option maxRecDepth 100000 in
set_option maxHeartbeats 2000000 in
theorem check1_is (gl : Nat) (t : TypeId) (fr : Nat × Nat) (L : Lay) (r : Rt) (w : World) (b : Bool) (hb : formedS L r = b) (hg : w.heap[gl]? = some (.cells #[L.se.v, L.po.v, L.sg.v, L.rt.v] t fr)) (hL : LayAt w L) (hr : RtAt w r) (ho : RtOk L r) :
    Calls Try.prog 28 #[.agg #[.string r.nm, .int .i64 r.sg, r.pa.v, r.po.v, r.ov.v, r.fl.v], .pointer (some ⟨gl, 0, none⟩)] w fun e w' => e = .returned (.bool (!b)) ∧ Below w.heap.size w w' := by
  have HF : Hid (∀ W, Below w.heap.size w W → Calls Try.prog 29 #[.agg #[L.se.v, L.po.v, L.sg.v, L.rt.v], .agg #[.string r.nm, .int .i64 r.sg, r.pa.v, r.po.v, r.ov.v, r.fl.v]] W fun e w' => e = .returned (.bool b) ∧ Below W.heap.size W w') :=
    Lib.hid (fun W hW => hb ▸ formed_is L r W (hL.below hW) (hr.below hW) ho.s0 ho.s1 (by have := ho.pa; have := ho.ov; omega) (by have := ho.po; have := ho.fl; omega))
  obtain ⟨m1, hm1⟩ : ∃ n, r.pa.l.length = n := ⟨_, rfl⟩
  obtain ⟨m2, hm2⟩ : ∃ n, r.po.l.length = n := ⟨_, rfl⟩
  obtain ⟨m3, hm3⟩ : ∃ n, r.ov.l.length = n := ⟨_, rfl⟩
  obtain ⟨m4, hm4⟩ : ∃ n, r.fl.l.length = n := ⟨_, rfl⟩
  obtain ⟨n1, hn1⟩ : ∃ n, L.se.l.length = n := ⟨_, rfl⟩
  obtain ⟨n2, hn2⟩ : ∃ n, L.po.l.length = n := ⟨_, rfl⟩
  obtain ⟨n3, hn3⟩ : ∃ n, L.sg.l.length = n := ⟨_, rfl⟩
  obtain ⟨n4, hn4⟩ : ∃ n, L.rt.l.length = n := ⟨_, rfl⟩
  rw [slv hm1, slv hm2, slv hm3, slv hm4, slv hn1, slv hn2, slv hn3, slv hn4] at HF
  rw [slv hn1, slv hn2, slv hn3, slv hn4] at hg
  rw [slv hm1, slv hm2, slv hm3, slv hm4]
  clear hm1 hm2 hm3 hm4 hn1 hn2 hn3 hn4 hL hr ho hb
  have l0 := blk_cell hg 0 _ rfl
  have l1 := blk_cell hg 1 _ rfl
  have l2 := blk_cell hg 2 _ rfl
  have l3 := blk_cell hg 3 _ rfl
  have hlt := blk_lt hg
  clear hg
  go_enter Try.func28, Try.ntmps28
  go_wp2_with fail
  refine (HF.out _ (below1 w _)).mono ?_
  rintro e w1 ⟨rfl, hb1⟩
  have HB := Lib.hid (below_on (below1 w _) hb1)
  clear hb1 l0 l1 l2 l3
  go_wp2_with fail
  go_ret
  exact ⟨rfl, HB.out⟩

set_option maxRecDepth 100000 in
set_option maxHeartbeats 2000000 in
theorem ixf_rt (gl : Nat) (p : Rt → Bool) (x : Option Addr) (m c : Nat) (l : List Rt) (w : World) (hn : l.length = m) (hm : m ≤ 9223372036854775807) (hl : RowAt 6 rtC w x l)
    (hp : ∀ W, Below w.heap.size w W → ∀ r ∈ l, Calls Try.prog 28 #[.agg #[.string r.nm, .int .i64 r.sg, r.pa.v, r.po.v, r.ov.v, r.fl.v], .pointer (some ⟨gl, 0, none⟩)] W fun e w' => e = .returned (.bool (p r)) ∧ Below W.heap.size W w') :
    Calls Try.prog 27 #[.slice x m c, .func (.func 28) #[] #[.pointer (some ⟨gl, 0, none⟩)]] w fun e w' => e = .returned (.int .i64 (ixF p 0 l)) ∧ Below w.heap.size w w' := by
  have HN := Lib.hid hn
  have HP := Lib.hid hp
  have HR := Lib.hid hl
  clear hn hp hl
  go_enter Try.func27, Try.ntmps27
  go_wp2_with fail
  go_loopg [5, 8] m (fun g _ i wr => ∃ k : Nat, k + g = m ∧ i = .int .i64 (k : Int) ∧ ixF p k (l.drop k) = ixF p 0 l ∧ Below w.heap.size w wr)
  case atStart => exact ⟨0, by omega, rfl, rfl, Below.refl _ _⟩
  case round =>
    obtain ⟨k, hk, rfl, hb, hbw⟩ := hrel
    have HB := Lib.hid hb
    have HBW := Lib.hid hbw
    clear hb hbw
    by_cases hlt : k < m
    · obtain ⟨y, hy⟩ : ∃ y, l[k]? = some y := ⟨_, List.getElem?_eq_getElem (by rw [HN.out]; exact hlt)⟩
      rcases HR.out.below HBW.out with hnil | ⟨b, off, rfl, hc⟩
      · rw [hnil] at hy; simp at hy
      have z0 := hc k _ hy 0 _ rfl
      have z1 := hc k _ hy 1 _ rfl
      have z2 := hc k _ hy 2 _ rfl
      have z3 := hc k _ hy 3 _ rfl
      have z4 := hc k _ hy 4 _ rfl
      have z5 := hc k _ hy 5 _ rfl
      rw [Nat.add_zero] at z0
      have hd := ixF_drop (p := p) hy
      have d1 : (0 : Int) ≤ k := by omega
      have d2 : (k : Int) < m := by omega
      have e1 : wrap64 ((k : Int) + 1) = (k : Int) + 1 := by unfold wrap64; omega
      have HK := Lib.hid hk
      have hcall := HP.out wr HBW.out y (List.mem_of_getElem? hy)
      obtain ⟨D, hD⟩ : ∃ D, p y = D := ⟨_, rfl⟩
      rw [hD] at hcall hd
      obtain ⟨m1, hm1⟩ : ∃ n, y.pa.l.length = n := ⟨_, rfl⟩
      obtain ⟨m2, hm2⟩ : ∃ n, y.po.l.length = n := ⟨_, rfl⟩
      obtain ⟨m3, hm3⟩ : ∃ n, y.ov.l.length = n := ⟨_, rfl⟩
      obtain ⟨m4, hm4⟩ : ∃ n, y.fl.l.length = n := ⟨_, rfl⟩
      rw [slv hm1, slv hm2, slv hm3, slv hm4] at hcall
      rw [slv hm1] at z2
      rw [slv hm2] at z3
      rw [slv hm3] at z4
      rw [slv hm4] at z5
      have HC := Lib.hid hcall
      clear hc hy hk hcall hD hm1 hm2 hm3 hm4
      cases D with
      | true =>
        have HF : Hid (ixF p 0 l = k) := Lib.hid (HB.out.symm.trans (by rw [hd, if_pos rfl]))
        clear hd
        go_wp2_with fail
        refine HC.out.mono ?_
        rintro e w5 ⟨rfl, hb5⟩
        have HB5 := Lib.hid (below_on HBW.out hb5)
        clear hb5
        go_wp2_with fail
        go_ret
        exact ⟨by rw [HF.out]; rfl, HB5.out⟩
      | false =>
        have HT : Hid (ixF p (k + 1) (l.drop (k + 1)) = ixF p 0 l) := Lib.hid (Eq.trans (by rw [hd, if_neg (by decide)]) HB.out)
        clear hd
        go_wp2_with fail
        refine HC.out.mono ?_
        rintro e w5 ⟨rfl, hb5⟩
        have HB5 := Lib.hid (below_on HBW.out hb5)
        clear hb5
        go_wp2_with fail
        go_roundg (m - (k + 1))
        case rel => exact ⟨k + 1, by have := HK.out; omega, by go_num, HT.out, HB5.out⟩
        case measure => have := HK.out; omega
    · have hkm : m = k := by omega
      subst hkm
      have HF : Hid (ixF p 0 l = -1) := Lib.hid (HB.out.symm.trans (ixF_end HN.out))
      go_wp2_with fail
      go_ret
      exact ⟨by rw [HF.out]; rfl, HBW.out⟩

set_option maxRecDepth 100000 in
set_option maxHeartbeats 2000000 in
theorem check_is (L : Lay) (w : World) (hL : LayAt w L) :
    Calls Try.prog 16 #[.agg #[L.se.v, L.po.v, L.sg.v, L.rt.v]] w fun e w' => e = .returned (.tuple #[.int .i64 (checkS L).1, .int .i64 (checkS L).2]) ∧ Below w.heap.size w w' := by
  have HMAY : Hid (∀ W, Below w.heap.size w W → Calls Try.prog 26 #[.agg #[L.se.v, L.po.v, L.sg.v, L.rt.v]] W fun e w' => e = .returned (.bool (mayS L)) ∧ Below W.heap.size W w') := Lib.hid (fun W hW => may_lay L W (hL.below hW))
  have HLW := Lib.hid hL
  obtain ⟨n1, hn1⟩ : ∃ n, L.se.l.length = n := ⟨_, rfl⟩
  obtain ⟨n2, hn2⟩ : ∃ n, L.po.l.length = n := ⟨_, rfl⟩
  obtain ⟨n3, hn3⟩ : ∃ n, L.sg.l.length = n := ⟨_, rfl⟩
  obtain ⟨n4, hn4⟩ : ∃ n, L.rt.l.length = n := ⟨_, rfl⟩
  have hm4 : n4 ≤ 9223372036854775807 := by rw [← hn4]; exact hL.rt.lenM
  have HN := Lib.hid (And.intro (slv hn1) (And.intro (slv hn2) (And.intro (slv hn3) (And.intro (slv hn4) hm4))))
  have HN4 := Lib.hid hn4
  rw [slv hn1, slv hn2, slv hn3, slv hn4] at HMAY ⊢
  clear hn1 hn2 hn3 hn4 hm4 hL
  obtain ⟨gl, hgl⟩ : ∃ g, g = w.heap.size := ⟨_, rfl⟩
  have HGL := Lib.hid hgl
  clear hgl
  obtain ⟨B, hB⟩ : ∃ B, mayS L = B := ⟨_, rfl⟩
  rw [hB] at HMAY
  have HBB := Lib.hid hB
  clear hB
  go_enter Try.func16, Try.ntmps16
  go_wp2_with fail
  refine (HMAY.out _ (below1 w _)).mono ?_
  rintro e w1 ⟨rfl, hb1⟩
  have hq := blk_keep hb1 (alloc1 w (.cells #[.slice L.se.a n1 L.se.c, .slice L.po.a n2 L.po.c, .slice L.sg.a n3 L.sg.c, .slice L.rt.a n4 L.rt.c] 39) (Below.refl _ _))
  have hbw := below_on (below1 w _) hb1
  rw [← HGL.out] at hq ⊢
  have HB1 := Lib.hid hbw
  clear hb1 hbw
  cases B with
  | false =>
    have HC := Lib.hid (cs_no HBB.out)
    clear hq
    go_wp2_with fail
    go_ret2
    exact ⟨by rw [HC.out]; rfl, HB1.out⟩
  | true =>
    have l3 := blk_cell hq 3 _ rfl
    obtain ⟨z, hz⟩ : ∃ z, badS L = z := ⟨_, rfl⟩
    have HZ := Lib.hid hz
    have HIX : Hid (Calls Try.prog 27 #[.slice L.rt.a n4 L.rt.c, .func (.func 28) #[] #[.pointer (some ⟨gl, 0, none⟩)]] w1 fun e w' => e = .returned (.int .i64 z) ∧ Below w1.heap.size w1 w') := by
      have hLw := HLW.out.below HB1.out
      have hok := mayS_rt HBB.out
      refine Lib.hid (hz ▸ ixf_rt gl (fun r => !formedS L r) _ _ _ L.rt.l w1 HN4.out HN.out.2.2.2.2 hLw.rt.row (fun W hW r hr => check1_is gl 39 (0, 0) L r W _ rfl ?_ (hLw.below hW) ((hLw.rn r hr).below hW) (hok r hr)))
      obtain ⟨x1, x2, x3, x4, _⟩ := HN.out
      rw [x1, x2, x3, x4]
      exact blk_keep hW hq
    clear hq hz
    go_wp2_with fail
    refine HIX.out.mono ?_
    rintro e w2 ⟨rfl, hb2⟩
    have HB2 := Lib.hid (below_on HB1.out hb2)
    clear hb2 l3
    by_cases hz0 : 0 ≤ z
    · have HC := Lib.hid (cs_bad HBB.out HZ.out hz0)
      go_wp2_with fail
      go_ret2
      exact ⟨by rw [HC.out]; rfl, HB2.out⟩
    · have HC := Lib.hid (cs_ok HBB.out HZ.out hz0)
      go_wp2_with fail
      go_ret2
      exact ⟨by rw [HC.out]; rfl, HB2.out⟩
end Go.Proofs.Ytdkcpejlojdijaa
