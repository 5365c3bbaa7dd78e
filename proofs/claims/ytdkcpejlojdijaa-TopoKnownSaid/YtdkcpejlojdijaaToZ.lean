/-
  Walks: semaphorekit.Weight, how much a layout has.
-/
import Derived.Test.YtdkcpejlojdijaaToY
import Derived.Deep.LoopGhost
namespace Go.Proofs.Ytdkcpejlojdijaa
open Go.RowKit

/-- a number that grows with each element, as long as it is t at most -/
def wtF {α : Type} (t : Int) (f : Int → α → Int) : Int → List α → Int
  | z, [] => z
  | z, y :: l => if z ≤ t then wtF t f (f z y) l else z
theorem wtF_drop {α : Type} {t : Int} {f : Int → α → Int} {z : Int} {l : List α} {y : α} {k : Nat} (h : l[k]? = some y) (hz : z ≤ t) : wtF t f z (l.drop k) = wtF t f (f z y) (l.drop (k + 1)) := by
  have hk : k < l.length := (List.getElem?_eq_some_iff.1 h).1
  rw [List.drop_eq_getElem_cons hk, (List.getElem?_eq_some_iff.1 h).2]
  show (if z ≤ t then _ else _) = _
  rw [if_pos hz]
theorem wtF_stop {α : Type} {t : Int} {f : Int → α → Int} {z : Int} {l : List α} {k n : Nat} (hn : l.length = n) (h : n ≤ k ∨ t < z) : wtF t f z (l.drop k) = z := by
  cases hd : l.drop k with
  | nil => rfl
  | cons y m =>
    rcases h with h | h
    · rw [List.drop_eq_nil_of_le (by omega)] at hd; cases hd
    · show (if z ≤ t then _ else _) = _
      rw [if_neg (by omega)]
def wtS (z : Int) (s : BA) : Int := wrap64 (wrap64 (z + 1) + (s.size : Int))
def wtR (t z : Int) (r : Rt) : Int :=
  let y := wrap64 (wrap64 (wrap64 (wrap64 (z + 1) + (r.nm.size : Int)) + (r.pa.l.length : Int)) + (r.po.l.length : Int))
  if y ≤ t then wrap64 (wrap64 (y + (r.ov.l.length : Int)) + (r.fl.l.length : Int)) else y
def weightS (t : Int) (L : Lay) : Int := wtF t (wtR t) (wtF t (fun z (p : BA × Int) => wtS z p.1) (wtF t (fun z (p : BA × Int) => wtS z p.1) (wtF t wtS 0 L.se.l) L.po.l) L.sg.l) L.rt.l
theorem wtS_is (z : Int) (s : BA) : wrap64 (wrap64 (z + 1) + (s.size : Int)) = wtS z s := rfl
theorem wtR_le {t z : Int} {r : Rt} {m1 m2 m3 m4 : Nat} (h : r.pa.l.length = m1 ∧ r.po.l.length = m2 ∧ r.ov.l.length = m3 ∧ r.fl.l.length = m4) (q : wrap64 (wrap64 (wrap64 (wrap64 (z + 1) + (r.nm.size : Int)) + (m1 : Int)) + (m2 : Int)) ≤ t) :
    wrap64 (wrap64 (wrap64 (wrap64 (wrap64 (wrap64 (z + 1) + (r.nm.size : Int)) + (m1 : Int)) + (m2 : Int)) + (m3 : Int)) + (m4 : Int)) = wtR t z r := by
  obtain ⟨rfl, rfl, rfl, rfl⟩ := h
  unfold wtR
  rw [if_pos q]
theorem wtR_gt {t z : Int} {r : Rt} {m1 m2 m3 m4 : Nat} (h : r.pa.l.length = m1 ∧ r.po.l.length = m2 ∧ r.ov.l.length = m3 ∧ r.fl.l.length = m4) (q : ¬ wrap64 (wrap64 (wrap64 (wrap64 (z + 1) + (r.nm.size : Int)) + (m1 : Int)) + (m2 : Int)) ≤ t) :
    wrap64 (wrap64 (wrap64 (wrap64 (z + 1) + (r.nm.size : Int)) + (m1 : Int)) + (m2 : Int)) = wtR t z r := by
  obtain ⟨rfl, rfl, rfl, rfl⟩ := h
  unfold wtR
  rw [if_neg q]
attribute [local irreducible] Sl.v wtF wtR wtS

set_option maxRecDepth 100000 in
set_option maxHeartbeats 4000000 in
theorem weight_is (t : Int) (L : Lay) (w : World) (hL : LayAt w L) :
    Calls Try.prog 15 #[.agg #[L.se.v, L.po.v, L.sg.v, L.rt.v], .int .i64 t] w fun e w' => e = .returned (.int .i64 (weightS t L)) ∧ Below w.heap.size w w' := by
  have HR1 := Lib.hid hL.se.row
  have HR2 := Lib.hid hL.po.row
  have HR3 := Lib.hid hL.sg.row
  have HR4 := Lib.hid hL.rt.row
  obtain ⟨n1, hn1⟩ : ∃ n, L.se.l.length = n := ⟨_, rfl⟩
  obtain ⟨n2, hn2⟩ : ∃ n, L.po.l.length = n := ⟨_, rfl⟩
  obtain ⟨n3, hn3⟩ : ∃ n, L.sg.l.length = n := ⟨_, rfl⟩
  obtain ⟨n4, hn4⟩ : ∃ n, L.rt.l.length = n := ⟨_, rfl⟩
  have HM1 : Hid (n1 ≤ 9223372036854775807) := Lib.hid (by rw [← hn1]; exact hL.se.lenM)
  have HM2 : Hid (n2 ≤ 9223372036854775807) := Lib.hid (by rw [← hn2]; exact hL.po.lenM)
  have HM3 : Hid (n3 ≤ 9223372036854775807) := Lib.hid (by rw [← hn3]; exact hL.sg.lenM)
  have HM4 : Hid (n4 ≤ 9223372036854775807) := Lib.hid (by rw [← hn4]; exact hL.rt.lenM)
  have HN1 := Lib.hid hn1
  have HN2 := Lib.hid hn2
  have HN3 := Lib.hid hn3
  have HN4 := Lib.hid hn4
  rw [slv hn1, slv hn2, slv hn3, slv hn4]
  clear hn1 hn2 hn3 hn4 hL
  obtain ⟨W1, hW1⟩ : ∃ W, W = wtF t wtS 0 L.se.l := ⟨_, rfl⟩
  obtain ⟨W2, hW2⟩ : ∃ W, W = wtF t (fun z (p : BA × Int) => wtS z p.1) W1 L.po.l := ⟨_, rfl⟩
  obtain ⟨W3, hW3⟩ : ∃ W, W = wtF t (fun z (p : BA × Int) => wtS z p.1) W2 L.sg.l := ⟨_, rfl⟩
  obtain ⟨W4, hW4⟩ : ∃ W, W = wtF t (wtR t) W3 L.rt.l := ⟨_, rfl⟩
  have HW : Hid (weightS t L = W4) := Lib.hid (by rw [hW4, hW3, hW2, hW1]; rfl)
  have HW1 := Lib.hid hW1.symm
  have HW2 := Lib.hid hW2.symm
  have HW3 := Lib.hid hW3.symm
  have HW4 := Lib.hid hW4.symm
  clear hW1 hW2 hW3 hW4
  obtain ⟨gl, hgl⟩ : ∃ g, g = w.heap.size := ⟨_, rfl⟩
  have HGL := Lib.hid hgl
  clear hgl
  go_enter Try.func15, Try.ntmps15
  go_wp2_with fail
  refine name_world05 ?_
  intro W0 hW0
  have hq : W0.heap[gl]? = some (.cells #[.slice L.se.a n1 L.se.c, .slice L.po.a n2 L.po.c, .slice L.sg.a n3 L.sg.c, .slice L.rt.a n4 L.rt.c] 39) := by rw [hW0, HGL.out]; exact alloc1 w _ (Below.refl _ _)
  have hb0 : Below w.heap.size w W0 := by rw [hW0]; exact below1 w _
  rw [← HGL.out]
  have HQ := Lib.hid hq
  have HB := Lib.hid hb0
  clear hq hb0 hW0
  skip
  go_loopg [5, 6] n1 (fun g nn i wr => ∃ (k : Nat) (z : Int), k + g = n1 ∧ nn = .int .i64 z ∧ i = .int .i64 (k : Int) ∧ wtF t wtS z (L.se.l.drop k) = W1 ∧ wr.heap[gl]? = some (.cells #[.slice L.se.a n1 L.se.c, .slice L.po.a n2 L.po.c, .slice L.sg.a n3 L.sg.c, .slice L.rt.a n4 L.rt.c] 39) ∧ Below w.heap.size w wr)
  case atStart => exact ⟨0, 0, by omega, rfl, rfl, HW1.out, HQ.out, HB.out⟩
  case round =>
    obtain ⟨k, z, hk, rfl, rfl, hst, hq, hbw⟩ := hrel
    clear HQ HB
    have HST := Lib.hid hst
    have HQ := Lib.hid hq
    have HB := Lib.hid hbw
    have l1 := blk_cell hq 0 _ rfl
    have hgz := blk_lt hq
    have HGZ := Lib.hid hgz
    have HK := Lib.hid hk
    clear hst hq hbw hk hgz
    have e0 : k < n1 → wrap64 ((k : Int) + 1) = (k : Int) + 1 := by intro h; have := HM1.out; unfold wrap64; omega
    have HE := Lib.hid e0
    clear e0
    go_upto_region 3 with fail
    go_cut [15, 16, 17, 18, 19, 20] (fun _s15 _s16 _s17 _s18 _s19 s20 wx => ∃ D : Bool, s20 = .bool D ∧ wr = wx ∧ Hid (D = true → k < n1 ∧ z ≤ t) ∧ Hid (D = false → n1 ≤ k ∨ t < z))
    case first =>
      by_cases hlt : k < n1
      · have d1 : (k : Int) < n1 := by omega
        by_cases hz : z ≤ t
        · go_wp2_with fail
          go_meet
          exact ⟨true, rfl, rfl, Lib.hid (fun _ => ⟨hlt, hz⟩), Lib.hid (fun h => absurd h (by decide))⟩
        · go_wp2_with fail
          go_meet
          exact ⟨false, rfl, rfl, Lib.hid (fun h => absurd h (by decide)), Lib.hid (fun _ => .inr (by omega))⟩
      · have d1 : ¬ (k : Int) < n1 := by omega
        go_wp2_with fail
        go_meet
        exact ⟨false, rfl, rfl, Lib.hid (fun h => absurd h (by decide)), Lib.hid (fun _ => .inl (Nat.le_of_not_lt hlt))⟩
    case rest =>
      obtain ⟨D, rfl, hwx, hD1, hD2⟩ := hcut
      subst hwx
      cases D with
      | true =>
        obtain ⟨hlt, hz⟩ := hD1.out rfl
        clear hD1 hD2
        have e0 := HE.out hlt
        clear HE
        obtain ⟨y, hy⟩ : ∃ y, L.se.l[k]? = some y := ⟨_, List.getElem?_eq_getElem (by rw [HN1.out]; exact hlt)⟩
        have hst := HST.out
        rw [wtF_drop hy hz] at hst
        clear HST
        have hz2 := hz
        clear hz
        rcases HR1.out.below HB.out with hnil | ⟨xb, off, hxb, hc⟩
        · rw [hnil] at hy; simp at hy
        have z0 := hc k _ hy 0 _ rfl
        rw [Nat.add_zero, Nat.mul_one] at z0
        have d1 : (0 : Int) ≤ k := by omega
        have d2 : (k : Int) < n1 := by omega
        have HX := Lib.hid hst
        have HLT := Lib.hid hlt
        clear hc hy hst hlt hz2
        obtain ⟨x, hx⟩ : ∃ x, L.se.a = x := ⟨_, rfl⟩
        have HXX := Lib.hid hx
        rw [hx] at l1 HQ hxb ⊢
        subst hxb
        clear hx
        go_wp2_with fail
        rw [← HXX.out]
        go_roundg (n1 - (k + 1))
        case rel => exact ⟨k + 1, wrap64 (wrap64 (z + 1) + ((y.size : Nat) : Int)), by have := HK.out; have := HLT.out; omega, rfl, by go_num, by rw [wtS_is]; exact HX.out, by rw [HXX.out]; exact HQ.out, HB.out⟩
        case measure => have := HK.out; have := HLT.out; omega
      | false =>
        have h := wtF_stop (f := wtS) HN1.out (hD2.out rfl)
        rw [HST.out] at h
        subst h
        clear hD1 hD2 HST HE l1 HK HGZ
        go_wp2_with fail
        go_loopg [5, 7] n2 (fun g nn i wr => ∃ (k : Nat) (z : Int), k + g = n2 ∧ nn = .int .i64 z ∧ i = .int .i64 (k : Int) ∧ wtF t (fun z (p : BA × Int) => wtS z p.1) z (L.po.l.drop k) = W2 ∧ wr.heap[gl]? = some (.cells #[.slice L.se.a n1 L.se.c, .slice L.po.a n2 L.po.c, .slice L.sg.a n3 L.sg.c, .slice L.rt.a n4 L.rt.c] 39) ∧ Below w.heap.size w wr)
        case atStart => exact ⟨0, W1, by omega, rfl, rfl, HW2.out, HQ.out, HB.out⟩
        case round =>
          obtain ⟨k, z, hk, rfl, rfl, hst, hq, hbw⟩ := hrel
          clear HQ HB
          have HST := Lib.hid hst
          have HQ := Lib.hid hq
          have HB := Lib.hid hbw
          have l2 := blk_cell hq 1 _ rfl
          have hgz := blk_lt hq
          have HGZ := Lib.hid hgz
          have HK := Lib.hid hk
          clear hst hq hbw hk hgz
          have e0 : k < n2 → wrap64 ((k : Int) + 1) = (k : Int) + 1 := by intro h; have := HM2.out; unfold wrap64; omega
          have HE := Lib.hid e0
          clear e0
          go_upto_region 7 with fail
          go_cut [36, 37, 38, 39, 40, 41] (fun _s36 _s37 _s38 _s39 _s40 s41 wx => ∃ D : Bool, s41 = .bool D ∧ wr = wx ∧ Hid (D = true → k < n2 ∧ z ≤ t) ∧ Hid (D = false → n2 ≤ k ∨ t < z))
          case first =>
            by_cases hlt : k < n2
            · have d1 : (k : Int) < n2 := by omega
              by_cases hz : z ≤ t
              · go_wp2_with fail
                go_meet
                exact ⟨true, rfl, rfl, Lib.hid (fun _ => ⟨hlt, hz⟩), Lib.hid (fun h => absurd h (by decide))⟩
              · go_wp2_with fail
                go_meet
                exact ⟨false, rfl, rfl, Lib.hid (fun h => absurd h (by decide)), Lib.hid (fun _ => .inr (by omega))⟩
            · have d1 : ¬ (k : Int) < n2 := by omega
              go_wp2_with fail
              go_meet
              exact ⟨false, rfl, rfl, Lib.hid (fun h => absurd h (by decide)), Lib.hid (fun _ => .inl (Nat.le_of_not_lt hlt))⟩
          case rest =>
            obtain ⟨D, rfl, hwx, hD1, hD2⟩ := hcut
            subst hwx
            cases D with
            | true =>
              obtain ⟨hlt, hz⟩ := hD1.out rfl
              clear hD1 hD2
              have e0 := HE.out hlt
              clear HE
              obtain ⟨y, hy⟩ : ∃ y, L.po.l[k]? = some y := ⟨_, List.getElem?_eq_getElem (by rw [HN2.out]; exact hlt)⟩
              have hst := HST.out
              rw [wtF_drop hy hz] at hst
              clear HST
              have hz2 := hz
              clear hz
              rcases HR2.out.below HB.out with hnil | ⟨xb, off, hxb, hc⟩
              · rw [hnil] at hy; simp at hy
              have z0 := hc k _ hy 0 _ rfl
              rw [Nat.add_zero] at z0
              have d1 : (0 : Int) ≤ k := by omega
              have d2 : (k : Int) < n2 := by omega
              have HX := Lib.hid hst
              have HLT := Lib.hid hlt
              clear hc hy hst hlt hz2
              obtain ⟨x, hx⟩ : ∃ x, L.po.a = x := ⟨_, rfl⟩
              have HXX := Lib.hid hx
              rw [hx] at l2 HQ hxb ⊢
              subst hxb
              clear hx
              go_wp2_with fail
              rw [← HXX.out]
              go_roundg (n2 - (k + 1))
              case rel => exact ⟨k + 1, wrap64 (wrap64 (z + 1) + ((y.1.size : Nat) : Int)), by have := HK.out; have := HLT.out; omega, rfl, by go_num, by rw [wtS_is]; exact HX.out, by rw [HXX.out]; exact HQ.out, HB.out⟩
              case measure => have := HK.out; have := HLT.out; omega
            | false =>
              have h := wtF_stop (f := (fun z (p : BA × Int) => wtS z p.1)) HN2.out (hD2.out rfl)
              rw [HST.out] at h
              subst h
              clear hD1 hD2 HST HE l2 HK HGZ
              go_wp2_with fail
              go_loopg [5, 8] n3 (fun g nn i wr => ∃ (k : Nat) (z : Int), k + g = n3 ∧ nn = .int .i64 z ∧ i = .int .i64 (k : Int) ∧ wtF t (fun z (p : BA × Int) => wtS z p.1) z (L.sg.l.drop k) = W3 ∧ wr.heap[gl]? = some (.cells #[.slice L.se.a n1 L.se.c, .slice L.po.a n2 L.po.c, .slice L.sg.a n3 L.sg.c, .slice L.rt.a n4 L.rt.c] 39) ∧ Below w.heap.size w wr)
              case atStart => exact ⟨0, W2, by omega, rfl, rfl, HW3.out, HQ.out, HB.out⟩
              case round =>
                obtain ⟨k, z, hk, rfl, rfl, hst, hq, hbw⟩ := hrel
                clear HQ HB
                have HST := Lib.hid hst
                have HQ := Lib.hid hq
                have HB := Lib.hid hbw
                have l3 := blk_cell hq 2 _ rfl
                have hgz := blk_lt hq
                have HGZ := Lib.hid hgz
                have HK := Lib.hid hk
                clear hst hq hbw hk hgz
                have e0 : k < n3 → wrap64 ((k : Int) + 1) = (k : Int) + 1 := by intro h; have := HM3.out; unfold wrap64; omega
                have HE := Lib.hid e0
                clear e0
                go_upto_region 11 with fail
                go_cut [58, 59, 60, 61, 62, 63] (fun _s58 _s59 _s60 _s61 _s62 s63 wx => ∃ D : Bool, s63 = .bool D ∧ wr = wx ∧ Hid (D = true → k < n3 ∧ z ≤ t) ∧ Hid (D = false → n3 ≤ k ∨ t < z))
                case first =>
                  by_cases hlt : k < n3
                  · have d1 : (k : Int) < n3 := by omega
                    by_cases hz : z ≤ t
                    · go_wp2_with fail
                      go_meet
                      exact ⟨true, rfl, rfl, Lib.hid (fun _ => ⟨hlt, hz⟩), Lib.hid (fun h => absurd h (by decide))⟩
                    · go_wp2_with fail
                      go_meet
                      exact ⟨false, rfl, rfl, Lib.hid (fun h => absurd h (by decide)), Lib.hid (fun _ => .inr (by omega))⟩
                  · have d1 : ¬ (k : Int) < n3 := by omega
                    go_wp2_with fail
                    go_meet
                    exact ⟨false, rfl, rfl, Lib.hid (fun h => absurd h (by decide)), Lib.hid (fun _ => .inl (Nat.le_of_not_lt hlt))⟩
                case rest =>
                  obtain ⟨D, rfl, hwx, hD1, hD2⟩ := hcut
                  subst hwx
                  cases D with
                  | true =>
                    obtain ⟨hlt, hz⟩ := hD1.out rfl
                    clear hD1 hD2
                    have e0 := HE.out hlt
                    clear HE
                    obtain ⟨y, hy⟩ : ∃ y, L.sg.l[k]? = some y := ⟨_, List.getElem?_eq_getElem (by rw [HN3.out]; exact hlt)⟩
                    have hst := HST.out
                    rw [wtF_drop hy hz] at hst
                    clear HST
                    have hz2 := hz
                    clear hz
                    rcases HR3.out.below HB.out with hnil | ⟨xb, off, hxb, hc⟩
                    · rw [hnil] at hy; simp at hy
                    have z0 := hc k _ hy 0 _ rfl
                    rw [Nat.add_zero] at z0
                    have d1 : (0 : Int) ≤ k := by omega
                    have d2 : (k : Int) < n3 := by omega
                    have HX := Lib.hid hst
                    have HLT := Lib.hid hlt
                    clear hc hy hst hlt hz2
                    obtain ⟨x, hx⟩ : ∃ x, L.sg.a = x := ⟨_, rfl⟩
                    have HXX := Lib.hid hx
                    rw [hx] at l3 HQ hxb ⊢
                    subst hxb
                    clear hx
                    go_wp2_with fail
                    rw [← HXX.out]
                    go_roundg (n3 - (k + 1))
                    case rel => exact ⟨k + 1, wrap64 (wrap64 (z + 1) + ((y.1.size : Nat) : Int)), by have := HK.out; have := HLT.out; omega, rfl, by go_num, by rw [wtS_is]; exact HX.out, by rw [HXX.out]; exact HQ.out, HB.out⟩
                    case measure => have := HK.out; have := HLT.out; omega
                  | false =>
                    have h := wtF_stop (f := (fun z (p : BA × Int) => wtS z p.1)) HN3.out (hD2.out rfl)
                    rw [HST.out] at h
                    subst h
                    clear hD1 hD2 HST HE l3 HK HGZ
                    go_wp2_with fail
                    go_loopg [5, 9, 10] n4 (fun g nn i _ wr => ∃ (k : Nat) (z : Int), k + g = n4 ∧ nn = .int .i64 z ∧ i = .int .i64 (k : Int) ∧ wtF t (wtR t) z (L.rt.l.drop k) = W4 ∧ wr.heap[gl]? = some (.cells #[.slice L.se.a n1 L.se.c, .slice L.po.a n2 L.po.c, .slice L.sg.a n3 L.sg.c, .slice L.rt.a n4 L.rt.c] 39) ∧ Below w.heap.size w wr)
                    case atStart => exact ⟨0, W3, by omega, rfl, rfl, HW4.out, HQ.out, HB.out⟩
                    case round =>
                      obtain ⟨k, z, hk, rfl, rfl, hst, hq, hbw⟩ := hrel
                      clear HQ HB
                      have HST := Lib.hid hst
                      have HQ := Lib.hid hq
                      have HB := Lib.hid hbw
                      have l4 := blk_cell hq 3 _ rfl
                      have hgz := blk_lt hq
                      have HGZ := Lib.hid hgz
                      have HK := Lib.hid hk
                      clear hst hq hbw hk hgz
                      have e0 : k < n4 → wrap64 ((k : Int) + 1) = (k : Int) + 1 := by intro h; have := HM4.out; unfold wrap64; omega
                      have HE := Lib.hid e0
                      clear e0
                      go_upto_region 15 with fail
                      go_cut [80, 81, 82, 83, 84, 85] (fun _s80 _s81 _s82 _s83 _s84 s85 wx => ∃ D : Bool, s85 = .bool D ∧ wr = wx ∧ Hid (D = true → k < n4 ∧ z ≤ t) ∧ Hid (D = false → n4 ≤ k ∨ t < z))
                      case first =>
                        by_cases hlt : k < n4
                        · have d1 : (k : Int) < n4 := by omega
                          by_cases hz : z ≤ t
                          · go_wp2_with fail
                            go_meet
                            exact ⟨true, rfl, rfl, Lib.hid (fun _ => ⟨hlt, hz⟩), Lib.hid (fun h => absurd h (by decide))⟩
                          · go_wp2_with fail
                            go_meet
                            exact ⟨false, rfl, rfl, Lib.hid (fun h => absurd h (by decide)), Lib.hid (fun _ => .inr (by omega))⟩
                        · have d1 : ¬ (k : Int) < n4 := by omega
                          go_wp2_with fail
                          go_meet
                          exact ⟨false, rfl, rfl, Lib.hid (fun h => absurd h (by decide)), Lib.hid (fun _ => .inl (Nat.le_of_not_lt hlt))⟩
                      case rest =>
                        obtain ⟨D, rfl, hwx, hD1, hD2⟩ := hcut
                        subst hwx
                        cases D with
                        | true =>
                          obtain ⟨hlt, hz⟩ := hD1.out rfl
                          clear hD1 hD2
                          have e0 := HE.out hlt
                          clear HE
                          obtain ⟨y, hy⟩ : ∃ y, L.rt.l[k]? = some y := ⟨_, List.getElem?_eq_getElem (by rw [HN4.out]; exact hlt)⟩
                          have hst := HST.out
                          rw [wtF_drop hy hz] at hst
                          clear HST
                          have hz2 := hz
                          clear hz
                          rcases HR4.out.below HB.out with hnil | ⟨xb, off, hxb, hc⟩
                          · rw [hnil] at hy; simp at hy
                          have z0 := hc k _ hy 0 _ rfl
                          have z1 := hc k _ hy 1 _ rfl
                          have z2 := hc k _ hy 2 _ rfl
                          have z3 := hc k _ hy 3 _ rfl
                          have z4 := hc k _ hy 4 _ rfl
                          have z5 := hc k _ hy 5 _ rfl
                          rw [Nat.add_zero] at z0
                          obtain ⟨m1, hm1⟩ : ∃ n, y.pa.l.length = n := ⟨_, rfl⟩
                          obtain ⟨m2, hm2⟩ : ∃ n, y.po.l.length = n := ⟨_, rfl⟩
                          obtain ⟨m3, hm3⟩ : ∃ n, y.ov.l.length = n := ⟨_, rfl⟩
                          obtain ⟨m4, hm4⟩ : ∃ n, y.fl.l.length = n := ⟨_, rfl⟩
                          rw [slv hm1] at z2
                          rw [slv hm2] at z3
                          rw [slv hm3] at z4
                          rw [slv hm4] at z5
                          have HMM := Lib.hid (And.intro hm1 (And.intro hm2 (And.intro hm3 hm4)))
                          clear hm1 hm2 hm3 hm4
                          have d1 : (0 : Int) ≤ k := by omega
                          have d2 : (k : Int) < n4 := by omega
                          have HX := Lib.hid hst
                          have HLT := Lib.hid hlt
                          clear hc hy hst hlt hz2
                          obtain ⟨x, hx⟩ : ∃ x, L.rt.a = x := ⟨_, rfl⟩
                          have HXX := Lib.hid hx
                          rw [hx] at l4 HQ hxb ⊢
                          subst hxb
                          clear hx
                          by_cases hv : wrap64 (wrap64 (wrap64 (wrap64 (z + 1) + (y.nm.size : Int)) + (m1 : Int)) + (m2 : Int)) ≤ t
                          · have HV := Lib.hid hv
                            go_wp2_with fail
                            rw [← HXX.out]
                            go_roundg (n4 - (k + 1))
                            case rel => exact ⟨k + 1, wrap64 (wrap64 (wrap64 (wrap64 (wrap64 (wrap64 (z + 1) + (y.nm.size : Int)) + (m1 : Int)) + (m2 : Int)) + (m3 : Int)) + (m4 : Int)), by have := HK.out; have := HLT.out; omega, rfl, by go_num, by rw [wtR_le (t := t) (z := z) HMM.out (by have := HV.out; omega)]; exact HX.out, by rw [HXX.out]; exact blk_keep (below1 wr _) HQ.out, below_on HB.out (below1 wr _)⟩
                            case measure => have := HK.out; have := HLT.out; omega
                          · have HV := Lib.hid hv
                            go_wp2_with fail
                            rw [← HXX.out]
                            go_roundg (n4 - (k + 1))
                            case rel => exact ⟨k + 1, wrap64 (wrap64 (wrap64 (wrap64 (z + 1) + (y.nm.size : Int)) + (m1 : Int)) + (m2 : Int)), by have := HK.out; have := HLT.out; omega, rfl, by go_num, by rw [wtR_gt (t := t) (z := z) HMM.out (by have := HV.out; omega)]; exact HX.out, by rw [HXX.out]; exact blk_keep (below1 wr _) HQ.out, below_on HB.out (below1 wr _)⟩
                            case measure => have := HK.out; have := HLT.out; omega
                        | false =>
                          have h := wtF_stop (f := (wtR t)) HN4.out (hD2.out rfl)
                          rw [HST.out] at h
                          subst h
                          clear hD1 hD2 HST HE l4 HK HGZ
                          go_wp2_with fail
                          go_ret
                          exact ⟨by rw [HW.out]; rfl, HB.out⟩
end Go.Proofs.Ytdkcpejlojdijaa
