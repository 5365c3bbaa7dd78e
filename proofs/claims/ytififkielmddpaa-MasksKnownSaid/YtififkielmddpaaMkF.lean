/-
  Layer 08: what routes need, what conflicts with them.
-/
import Derived.Test.YtififkielmddpaaMkE
namespace Go.Proofs.Ytififkielmddpaa
open Go.RowKit
set_option maxRecDepth 100000
/-- is number k among the routes? -/
def inR (r k : Nat) : Bool := decide (k ≤ 63) && hasBit r k
/-- what some of the first k routes have, put together -/
def orS (F : Mk → Nat) (l : List Mk) (r : Nat) : Nat → Nat
  | 0 => 0
  | k + 1 => if inR r k then orS F l r k ||| ((l[k]?).map F).getD 0 else orS F l r k
theorem orS_zero (F : Mk → Nat) (l : List Mk) (r : Nat) : orS F l r 0 = 0 := rfl
theorem orS_no {F : Mk → Nat} {l : List Mk} {r k : Nat} (h : inR r k = false) : orS F l r (k + 1) = orS F l r k := by
  show (if inR r k then _ else _) = _
  rw [h]; rfl
theorem orS_yes {F : Mk → Nat} {l : List Mk} {r k : Nat} {x : Mk} (h : inR r k = true) (hx : l[k]? = some x) : orS F l r (k + 1) = orS F l r k ||| F x := by
  show (if inR r k then _ else _) = _
  rw [h, hx]; rfl
theorem orS_lt {F : Mk → Nat} {l : List Mk} {r W : Nat} (h : ∀ x ∈ l, F x < 2 ^ W) : ∀ k, orS F l r k < 2 ^ W
  | 0 => Nat.two_pow_pos W
  | k + 1 => by
    cases hb : inR r k with
    | false => rw [orS_no hb]; exact orS_lt h k
    | true =>
      cases hx : l[k]? with
      | none => show (if inR r k then _ else _) < _; rw [hb, hx]; exact Nat.or_lt_two_pow (orS_lt h k) (Nat.two_pow_pos W)
      | some x => rw [orS_yes hb hx]; exact Nat.or_lt_two_pow (orS_lt h k) (h x (List.mem_of_getElem? hx))
theorem orS_far {F : Mk → Nat} {l : List Mk} {r k : Nat} (h : 64 ≤ k) : orS F l r k = orS F l r 64 := by
  obtain ⟨d, rfl⟩ : ∃ d, k = 64 + d := ⟨k - 64, by omega⟩
  clear h
  induction d with
  | zero => rfl
  | succ d ih =>
    rw [show 64 + (d + 1) = (64 + d) + 1 by omega, orS_no (by unfold inR; rw [decide_eq_false (by omega)]; rfl)]
    exact ih
theorem orS_min {F : Mk → Nat} {l : List Mk} {r k : Nat} : orS F l r (min k 64) = orS F l r k := by
  by_cases h : k ≤ 64
  · rw [Nat.min_eq_left h]
  · rw [Nat.min_eq_right (by omega), orS_far (k := k) (by omega)]
theorem inR_has (r k : Nat) (w : World) (hr : r < 18446744073709551616) :
    Calls Try.prog 50 #[.int .u64 (r : Int), .int .i64 (k : Int)] w fun e w' => e = .returned (.bool (inR r k)) ∧ w = w' := by
  unfold inR
  by_cases h : k ≤ 63
  · rw [decide_eq_true h, Bool.true_and]; exact bhas_any r k w h hr
  · rw [decide_eq_false h, Bool.false_and]; exact bhas_out r k w (by omega)
theorem inR_rhas (r k : Nat) (w : World) (hk : k ≤ 63) (hr : r < 18446744073709551616) :
    Calls Try.prog 18 #[.int .u64 (r : Int), .int .i64 (k : Int)] w fun e w' => e = .returned (.bool (inR r k)) ∧ w = w' := by
  unfold inR
  rw [decide_eq_true hk, Bool.true_and]; exact has_any r k w hk hr
theorem or32 {a b : Nat} (ha : a < 2 ^ 32) (hb : b < 4294967296) : bits .or .u32 (a : Int) (b : Int) = ((a ||| b : Nat) : Int) := u32_or_nat a b ha hb
theorem or64 {a b : Nat} (ha : a < 2 ^ 64) (hb : b < 18446744073709551616) : bits .or .u64 (a : Int) (b : Int) = ((a ||| b : Nat) : Int) := u64_or_nat a b ha hb
attribute [local irreducible] Sl.v hasBit mayS Rt.tr Rt.nd checkS pw withBit withI ofN oneI sideL sideS firstS aheadS secOf rowS tabS tabL mkR mkF mksS liesS mksL liesL allL ptsL trsL formedS badS conflictS
attribute [local irreducible] orS inR

theorem cl_n (x : Mk) (w : World) : Calls Try.prog 35 #[.agg #[.int .u64 (x.t : Int), .int .u64 (x.f : Int), .int .u64 (x.a : Int), .int .u32 (x.n : Int), .int .u32 (x.r : Int), .int .u64 (x.c : Int)]] w fun e w' => e = .returned (.int .u32 (x.n : Int)) ∧ Below w.heap.size w w' := by
  go_enter Try.func35, Try.ntmps35
  go_upto_region 1 with fail
  have hbw := below1 w (.cells #[.int .u64 (x.t : Int), .int .u64 (x.f : Int), .int .u64 (x.a : Int), .int .u32 (x.n : Int), .int .u32 (x.r : Int), .int .u64 (x.c : Int)] 49)
  have hq := alloc1 w (.cells #[.int .u64 (x.t : Int), .int .u64 (x.f : Int), .int .u64 (x.a : Int), .int .u32 (x.n : Int), .int .u32 (x.r : Int), .int .u64 (x.c : Int)] 49) (Below.refl _ _)
  obtain ⟨W, hW⟩ : ∃ W, W = w.alloc (.cells #[.int .u64 (x.t : Int), .int .u64 (x.f : Int), .int .u64 (x.a : Int), .int .u32 (x.n : Int), .int .u32 (x.r : Int), .int .u64 (x.c : Int)] 49) := ⟨_, rfl⟩
  rw [← hW] at hbw hq ⊢
  obtain ⟨gl, hgl⟩ : ∃ g, g = w.heap.size := ⟨_, rfl⟩
  rw [← hgl] at hq ⊢
  have HB := Lib.hid hbw
  have c := blk_cell hq 3 _ rfl
  clear hbw hq hW hgl
  go_wp2_with fail
  go_ret
  exact ⟨rfl, HB.out⟩

theorem cl_r (x : Mk) (w : World) : Calls Try.prog 36 #[.agg #[.int .u64 (x.t : Int), .int .u64 (x.f : Int), .int .u64 (x.a : Int), .int .u32 (x.n : Int), .int .u32 (x.r : Int), .int .u64 (x.c : Int)]] w fun e w' => e = .returned (.int .u32 (x.r : Int)) ∧ Below w.heap.size w w' := by
  go_enter Try.func36, Try.ntmps36
  go_upto_region 1 with fail
  have hbw := below1 w (.cells #[.int .u64 (x.t : Int), .int .u64 (x.f : Int), .int .u64 (x.a : Int), .int .u32 (x.n : Int), .int .u32 (x.r : Int), .int .u64 (x.c : Int)] 49)
  have hq := alloc1 w (.cells #[.int .u64 (x.t : Int), .int .u64 (x.f : Int), .int .u64 (x.a : Int), .int .u32 (x.n : Int), .int .u32 (x.r : Int), .int .u64 (x.c : Int)] 49) (Below.refl _ _)
  obtain ⟨W, hW⟩ : ∃ W, W = w.alloc (.cells #[.int .u64 (x.t : Int), .int .u64 (x.f : Int), .int .u64 (x.a : Int), .int .u32 (x.n : Int), .int .u32 (x.r : Int), .int .u64 (x.c : Int)] 49) := ⟨_, rfl⟩
  rw [← hW] at hbw hq ⊢
  obtain ⟨gl, hgl⟩ : ∃ g, g = w.heap.size := ⟨_, rfl⟩
  rw [← hgl] at hq ⊢
  have HB := Lib.hid hbw
  have c := blk_cell hq 4 _ rfl
  clear hbw hq hW hgl
  go_wp2_with fail
  go_ret
  exact ⟨rfl, HB.out⟩

theorem cl_c (x : Mk) (w : World) : Calls Try.prog 38 #[.agg #[.int .u64 (x.t : Int), .int .u64 (x.f : Int), .int .u64 (x.a : Int), .int .u32 (x.n : Int), .int .u32 (x.r : Int), .int .u64 (x.c : Int)]] w fun e w' => e = .returned (.int .u64 (x.c : Int)) ∧ Below w.heap.size w w' := by
  go_enter Try.func38, Try.ntmps38
  go_upto_region 1 with fail
  have hbw := below1 w (.cells #[.int .u64 (x.t : Int), .int .u64 (x.f : Int), .int .u64 (x.a : Int), .int .u32 (x.n : Int), .int .u32 (x.r : Int), .int .u64 (x.c : Int)] 49)
  have hq := alloc1 w (.cells #[.int .u64 (x.t : Int), .int .u64 (x.f : Int), .int .u64 (x.a : Int), .int .u32 (x.n : Int), .int .u32 (x.r : Int), .int .u64 (x.c : Int)] 49) (Below.refl _ _)
  obtain ⟨W, hW⟩ : ∃ W, W = w.alloc (.cells #[.int .u64 (x.t : Int), .int .u64 (x.f : Int), .int .u64 (x.a : Int), .int .u32 (x.n : Int), .int .u32 (x.r : Int), .int .u64 (x.c : Int)] 49) := ⟨_, rfl⟩
  rw [← hW] at hbw hq ⊢
  obtain ⟨gl, hgl⟩ : ∃ g, g = w.heap.size := ⟨_, rfl⟩
  rw [← hgl] at hq ⊢
  have HB := Lib.hid hbw
  have c := blk_cell hq 5 _ rfl
  clear hbw hq hW hgl
  go_wp2_with fail
  go_ret
  exact ⟨rfl, HB.out⟩

set_option maxHeartbeats 4000000 in
theorem all_n (z : Nat) (R : List Mk) (xa ya : Option Addr) (m n xc yc al pt tr r : Nat) (hok : ∀ x ∈ R, x.ok) (hr : r < 18446744073709551616) (hm : m ≤ 100000) (hlen : R.length = m) (w : World) (hl : RowAt 6 mkC w xa R) (hz : orS Mk.n R r m = z) :
    Calls Try.prog 34 #[.agg #[.slice xa m xc, .slice ya n yc, .int .u64 (al : Int), .int .u32 (pt : Int), .int .u64 (tr : Int)], .int .u64 (r : Int), .func (.func 35) #[] #[]] w fun e w' => e = .returned (.int .u32 (z : Int)) ∧ Below w.heap.size w w' := by
  have HROW := Lib.hid hl
  have HLEN := Lib.hid hlen
  have HM := Lib.hid hm
  have HOK := Lib.hid hok
  have HR := Lib.hid hr
  have HZ := Lib.hid hz
  have HLTF : Hid (∀ k, orS Mk.n R r k < 2 ^ 32) := Lib.hid (orS_lt (fun x hx => (hok x hx).n))
  clear hl hlen hm hok hr hz
  go_enter Try.func34, Try.ntmps34
  go_upto_region 1 with fail
  have hbw := below1 w (.cells #[.slice xa m xc, .slice ya n yc, .int .u64 (al : Int), .int .u32 (pt : Int), .int .u64 (tr : Int)] 36)
  have hq := alloc1 w (.cells #[.slice xa m xc, .slice ya n yc, .int .u64 (al : Int), .int .u32 (pt : Int), .int .u64 (tr : Int)] 36) (Below.refl _ _)
  obtain ⟨W, hW⟩ : ∃ W, W = w.alloc (.cells #[.slice xa m xc, .slice ya n yc, .int .u64 (al : Int), .int .u32 (pt : Int), .int .u64 (tr : Int)] 36) := ⟨_, rfl⟩
  rw [← hW] at hbw hq ⊢
  obtain ⟨gl, hgl⟩ : ∃ g, g = w.heap.size := ⟨_, rfl⟩
  rw [← hgl] at hq ⊢
  have HB0 : Hid (Below w.heap.size w W) := Lib.hid hbw
  have HQ := Lib.hid hq
  clear hbw hq hW hgl
  have c0 := blk_cell HQ.out 0 _ rfl
  go_upto_region 3 with fail
  clear c0
  go_loopg [7, 13] m (fun g a v wr => ∃ i : Nat, i + g = m ∧ v = .int .i64 (i : Int) ∧ a = .int .u32 (orS Mk.n R r i : Int) ∧ Below W.heap.size W wr)
  case atStart => exact ⟨0, by omega, rfl, by rw [orS_zero]; rfl, Below.refl _ _⟩
  case round =>
    obtain ⟨i, hi, rfl, rfl, hbw⟩ := hrel
    have HI := Lib.hid hi
    have HB := Lib.hid hbw
    clear hi hbw
    by_cases hlt : i < m
    · have d1 : (0 : Int) ≤ i := by omega
      have d2 : (i : Int) < m := by omega
      have e1 := k_succ hlt (Nat.le_trans HM.out (by decide))
      have HLT := Lib.hid hlt
      obtain ⟨x, hx⟩ : ∃ x, R[i]? = some x := ⟨_, List.getElem?_eq_getElem (by rw [HLEN.out]; exact hlt)⟩
      have HX := Lib.hid hx
      have HXO := Lib.hid (HOK.out x (List.mem_of_getElem? hx))
      obtain ⟨X, hX⟩ : ∃ a, xa = a := ⟨_, rfl⟩
      have HXX := Lib.hid hX
      have hrow := HROW.out
      rw [hX] at hrow ⊢
      rcases hrow with hnil | ⟨xb, off, hxb, hc0⟩
      · rw [hnil] at hx; cases hx
      subst hxb
      have hc := fun j v hv => cell_later (below_on HB0.out HB.out) (hc0 i x hx j v hv)
      have p0 := hc 0 _ rfl
      have p1 := hc 1 _ rfl
      have p2 := hc 2 _ rfl
      have p3 := hc 3 _ rfl
      have p4 := hc 4 _ rfl
      have p5 := hc 5 _ rfl
      rw [Nat.add_zero] at p0
      obtain ⟨A, hA⟩ : ∃ A, orS Mk.n R r i = A := ⟨_, rfl⟩
      have HA := Lib.hid hA
      have HAL : Hid (A < 2 ^ 32) := Lib.hid (by rw [← hA]; exact HLTF.out i)
      rw [hA]
      obtain ⟨D, hD⟩ : ∃ D, inR r i = D := ⟨_, rfl⟩
      have HD := Lib.hid hD
      have HHS : Hid (∀ V, Calls Try.prog 50 #[.int .u64 (r : Int), .int .i64 (i : Int)] V fun e w' => e = .returned (.bool D) ∧ V = w') := Lib.hid (fun V => hD ▸ inR_has r i V HR.out)
      clear hc hc0 hx hlt hX hA hD
      go_upto_region 5 with fail
      have hbn := below1 wr (.cells #[.int .u64 (x.t : Int), .int .u64 (x.f : Int), .int .u64 (x.a : Int), .int .u32 (x.n : Int), .int .u32 (x.r : Int), .int .u64 (x.c : Int)] 49)
      have hqn := alloc1 wr (.cells #[.int .u64 (x.t : Int), .int .u64 (x.f : Int), .int .u64 (x.a : Int), .int .u32 (x.n : Int), .int .u32 (x.r : Int), .int .u64 (x.c : Int)] 49) (Below.refl _ _)
      obtain ⟨V9, hV9⟩ : ∃ V, V = wr.alloc (.cells #[.int .u64 (x.t : Int), .int .u64 (x.f : Int), .int .u64 (x.a : Int), .int .u32 (x.n : Int), .int .u32 (x.r : Int), .int .u64 (x.c : Int)] 49) := ⟨_, rfl⟩
      rw [← hV9] at hbn hqn ⊢
      obtain ⟨g9, hg9⟩ : ∃ g, g = wr.heap.size := ⟨_, rfl⟩
      rw [← hg9] at hqn ⊢
      have HB9 := Lib.hid (below_on HB.out hbn)
      have HQ9 := Lib.hid hqn
      clear hbn hqn hV9 hg9 p0 p1 p2 p3 p4 p5
      go_wp2_with fail
      refine (HHS.out _).mono ?_
      rintro e w' ⟨rfl, rfl⟩
      cases D with
      | false =>
        go_wp2_with fail
        rw [← HXX.out]
        go_roundg (m - (i + 1))
        case rel => exact ⟨i + 1, k_next HI.out HLT.out, by go_num, by rw [orS_no HD.out, HA.out], HB9.out⟩
        case measure => exact k_less HI.out HLT.out
      | true =>
        have y0 := blk_cell HQ9.out 0 _ rfl; have y1 := blk_cell HQ9.out 1 _ rfl; have y2 := blk_cell HQ9.out 2 _ rfl; have y3 := blk_cell HQ9.out 3 _ rfl; have y4 := blk_cell HQ9.out 4 _ rfl; have y5 := blk_cell HQ9.out 5 _ rfl
        go_wp2_with fail
        refine (cl_n x _).mono ?_
        rintro e w1 ⟨rfl, hb⟩
        have HB1 := Lib.hid (below_on HB9.out hb)
        have hor := or32 HAL.out HXO.out.n
        clear hb y0 y1 y2 y3 y4 y5
        go_wp2_with fail
        clear hor
        rw [← HXX.out]
        go_roundg (m - (i + 1))
        case rel => exact ⟨i + 1, k_next HI.out HLT.out, by go_num, by rw [orS_yes HD.out HX.out, HA.out], HB1.out⟩
        case measure => exact k_less HI.out HLT.out
    · have d2 : ¬ (i : Int) < m := by omega
      have hin : orS Mk.n R r i = z := by rw [← HZ.out, show i = m by have := HI.out; omega]
      rw [hin]
      clear hlt hin
      go_wp2_with fail
      go_ret
      exact ⟨rfl, below_on HB0.out HB.out⟩

set_option maxHeartbeats 4000000 in
theorem all_r (z : Nat) (R : List Mk) (xa ya : Option Addr) (m n xc yc al pt tr r : Nat) (hok : ∀ x ∈ R, x.ok) (hr : r < 18446744073709551616) (hm : m ≤ 100000) (hlen : R.length = m) (w : World) (hl : RowAt 6 mkC w xa R) (hz : orS Mk.r R r m = z) :
    Calls Try.prog 34 #[.agg #[.slice xa m xc, .slice ya n yc, .int .u64 (al : Int), .int .u32 (pt : Int), .int .u64 (tr : Int)], .int .u64 (r : Int), .func (.func 36) #[] #[]] w fun e w' => e = .returned (.int .u32 (z : Int)) ∧ Below w.heap.size w w' := by
  have HROW := Lib.hid hl
  have HLEN := Lib.hid hlen
  have HM := Lib.hid hm
  have HOK := Lib.hid hok
  have HR := Lib.hid hr
  have HZ := Lib.hid hz
  have HLTF : Hid (∀ k, orS Mk.r R r k < 2 ^ 32) := Lib.hid (orS_lt (fun x hx => (hok x hx).r))
  clear hl hlen hm hok hr hz
  go_enter Try.func34, Try.ntmps34
  go_upto_region 1 with fail
  have hbw := below1 w (.cells #[.slice xa m xc, .slice ya n yc, .int .u64 (al : Int), .int .u32 (pt : Int), .int .u64 (tr : Int)] 36)
  have hq := alloc1 w (.cells #[.slice xa m xc, .slice ya n yc, .int .u64 (al : Int), .int .u32 (pt : Int), .int .u64 (tr : Int)] 36) (Below.refl _ _)
  obtain ⟨W, hW⟩ : ∃ W, W = w.alloc (.cells #[.slice xa m xc, .slice ya n yc, .int .u64 (al : Int), .int .u32 (pt : Int), .int .u64 (tr : Int)] 36) := ⟨_, rfl⟩
  rw [← hW] at hbw hq ⊢
  obtain ⟨gl, hgl⟩ : ∃ g, g = w.heap.size := ⟨_, rfl⟩
  rw [← hgl] at hq ⊢
  have HB0 : Hid (Below w.heap.size w W) := Lib.hid hbw
  have HQ := Lib.hid hq
  clear hbw hq hW hgl
  have c0 := blk_cell HQ.out 0 _ rfl
  go_upto_region 3 with fail
  clear c0
  go_loopg [7, 13] m (fun g a v wr => ∃ i : Nat, i + g = m ∧ v = .int .i64 (i : Int) ∧ a = .int .u32 (orS Mk.r R r i : Int) ∧ Below W.heap.size W wr)
  case atStart => exact ⟨0, by omega, rfl, by rw [orS_zero]; rfl, Below.refl _ _⟩
  case round =>
    obtain ⟨i, hi, rfl, rfl, hbw⟩ := hrel
    have HI := Lib.hid hi
    have HB := Lib.hid hbw
    clear hi hbw
    by_cases hlt : i < m
    · have d1 : (0 : Int) ≤ i := by omega
      have d2 : (i : Int) < m := by omega
      have e1 := k_succ hlt (Nat.le_trans HM.out (by decide))
      have HLT := Lib.hid hlt
      obtain ⟨x, hx⟩ : ∃ x, R[i]? = some x := ⟨_, List.getElem?_eq_getElem (by rw [HLEN.out]; exact hlt)⟩
      have HX := Lib.hid hx
      have HXO := Lib.hid (HOK.out x (List.mem_of_getElem? hx))
      obtain ⟨X, hX⟩ : ∃ a, xa = a := ⟨_, rfl⟩
      have HXX := Lib.hid hX
      have hrow := HROW.out
      rw [hX] at hrow ⊢
      rcases hrow with hnil | ⟨xb, off, hxb, hc0⟩
      · rw [hnil] at hx; cases hx
      subst hxb
      have hc := fun j v hv => cell_later (below_on HB0.out HB.out) (hc0 i x hx j v hv)
      have p0 := hc 0 _ rfl
      have p1 := hc 1 _ rfl
      have p2 := hc 2 _ rfl
      have p3 := hc 3 _ rfl
      have p4 := hc 4 _ rfl
      have p5 := hc 5 _ rfl
      rw [Nat.add_zero] at p0
      obtain ⟨A, hA⟩ : ∃ A, orS Mk.r R r i = A := ⟨_, rfl⟩
      have HA := Lib.hid hA
      have HAL : Hid (A < 2 ^ 32) := Lib.hid (by rw [← hA]; exact HLTF.out i)
      rw [hA]
      obtain ⟨D, hD⟩ : ∃ D, inR r i = D := ⟨_, rfl⟩
      have HD := Lib.hid hD
      have HHS : Hid (∀ V, Calls Try.prog 50 #[.int .u64 (r : Int), .int .i64 (i : Int)] V fun e w' => e = .returned (.bool D) ∧ V = w') := Lib.hid (fun V => hD ▸ inR_has r i V HR.out)
      clear hc hc0 hx hlt hX hA hD
      go_upto_region 5 with fail
      have hbn := below1 wr (.cells #[.int .u64 (x.t : Int), .int .u64 (x.f : Int), .int .u64 (x.a : Int), .int .u32 (x.n : Int), .int .u32 (x.r : Int), .int .u64 (x.c : Int)] 49)
      have hqn := alloc1 wr (.cells #[.int .u64 (x.t : Int), .int .u64 (x.f : Int), .int .u64 (x.a : Int), .int .u32 (x.n : Int), .int .u32 (x.r : Int), .int .u64 (x.c : Int)] 49) (Below.refl _ _)
      obtain ⟨V9, hV9⟩ : ∃ V, V = wr.alloc (.cells #[.int .u64 (x.t : Int), .int .u64 (x.f : Int), .int .u64 (x.a : Int), .int .u32 (x.n : Int), .int .u32 (x.r : Int), .int .u64 (x.c : Int)] 49) := ⟨_, rfl⟩
      rw [← hV9] at hbn hqn ⊢
      obtain ⟨g9, hg9⟩ : ∃ g, g = wr.heap.size := ⟨_, rfl⟩
      rw [← hg9] at hqn ⊢
      have HB9 := Lib.hid (below_on HB.out hbn)
      have HQ9 := Lib.hid hqn
      clear hbn hqn hV9 hg9 p0 p1 p2 p3 p4 p5
      go_wp2_with fail
      refine (HHS.out _).mono ?_
      rintro e w' ⟨rfl, rfl⟩
      cases D with
      | false =>
        go_wp2_with fail
        rw [← HXX.out]
        go_roundg (m - (i + 1))
        case rel => exact ⟨i + 1, k_next HI.out HLT.out, by go_num, by rw [orS_no HD.out, HA.out], HB9.out⟩
        case measure => exact k_less HI.out HLT.out
      | true =>
        have y0 := blk_cell HQ9.out 0 _ rfl; have y1 := blk_cell HQ9.out 1 _ rfl; have y2 := blk_cell HQ9.out 2 _ rfl; have y3 := blk_cell HQ9.out 3 _ rfl; have y4 := blk_cell HQ9.out 4 _ rfl; have y5 := blk_cell HQ9.out 5 _ rfl
        go_wp2_with fail
        refine (cl_r x _).mono ?_
        rintro e w1 ⟨rfl, hb⟩
        have HB1 := Lib.hid (below_on HB9.out hb)
        have hor := or32 HAL.out HXO.out.r
        clear hb y0 y1 y2 y3 y4 y5
        go_wp2_with fail
        clear hor
        rw [← HXX.out]
        go_roundg (m - (i + 1))
        case rel => exact ⟨i + 1, k_next HI.out HLT.out, by go_num, by rw [orS_yes HD.out HX.out, HA.out], HB1.out⟩
        case measure => exact k_less HI.out HLT.out
    · have d2 : ¬ (i : Int) < m := by omega
      have hin : orS Mk.r R r i = z := by rw [← HZ.out, show i = m by have := HI.out; omega]
      rw [hin]
      clear hlt hin
      go_wp2_with fail
      go_ret
      exact ⟨rfl, below_on HB0.out HB.out⟩

set_option maxHeartbeats 4000000 in
theorem all_c (z : Nat) (R : List Mk) (xa ya : Option Addr) (m n xc yc al pt tr r : Nat) (hok : ∀ x ∈ R, x.ok) (hr : r < 18446744073709551616) (hm : m ≤ 100000) (hlen : R.length = m) (w : World) (hl : RowAt 6 mkC w xa R) (hz : orS Mk.c R r m = z) :
    Calls Try.prog 37 #[.agg #[.slice xa m xc, .slice ya n yc, .int .u64 (al : Int), .int .u32 (pt : Int), .int .u64 (tr : Int)], .int .u64 (r : Int), .func (.func 38) #[] #[]] w fun e w' => e = .returned (.int .u64 (z : Int)) ∧ Below w.heap.size w w' := by
  have HROW := Lib.hid hl
  have HLEN := Lib.hid hlen
  have HM := Lib.hid hm
  have HOK := Lib.hid hok
  have HR := Lib.hid hr
  have HZ := Lib.hid hz
  have HLTF : Hid (∀ k, orS Mk.c R r k < 2 ^ 64) := Lib.hid (orS_lt (fun x hx => (hok x hx).c))
  clear hl hlen hm hok hr hz
  go_enter Try.func37, Try.ntmps37
  go_upto_region 1 with fail
  have hbw := below1 w (.cells #[.slice xa m xc, .slice ya n yc, .int .u64 (al : Int), .int .u32 (pt : Int), .int .u64 (tr : Int)] 36)
  have hq := alloc1 w (.cells #[.slice xa m xc, .slice ya n yc, .int .u64 (al : Int), .int .u32 (pt : Int), .int .u64 (tr : Int)] 36) (Below.refl _ _)
  obtain ⟨W, hW⟩ : ∃ W, W = w.alloc (.cells #[.slice xa m xc, .slice ya n yc, .int .u64 (al : Int), .int .u32 (pt : Int), .int .u64 (tr : Int)] 36) := ⟨_, rfl⟩
  rw [← hW] at hbw hq ⊢
  obtain ⟨gl, hgl⟩ : ∃ g, g = w.heap.size := ⟨_, rfl⟩
  rw [← hgl] at hq ⊢
  have HB0 : Hid (Below w.heap.size w W) := Lib.hid hbw
  have HQ := Lib.hid hq
  clear hbw hq hW hgl
  have c0 := blk_cell HQ.out 0 _ rfl
  go_upto_region 3 with fail
  clear c0
  go_loopg [7, 13] m (fun g a v wr => ∃ i : Nat, i + g = m ∧ v = .int .i64 (i : Int) ∧ a = .int .u64 (orS Mk.c R r i : Int) ∧ Below W.heap.size W wr)
  case atStart => exact ⟨0, by omega, rfl, by rw [orS_zero]; rfl, Below.refl _ _⟩
  case round =>
    obtain ⟨i, hi, rfl, rfl, hbw⟩ := hrel
    have HI := Lib.hid hi
    have HB := Lib.hid hbw
    clear hi hbw
    by_cases hlt : i < m
    · have d1 : (0 : Int) ≤ i := by omega
      have d2 : (i : Int) < m := by omega
      have e1 := k_succ hlt (Nat.le_trans HM.out (by decide))
      have HLT := Lib.hid hlt
      obtain ⟨x, hx⟩ : ∃ x, R[i]? = some x := ⟨_, List.getElem?_eq_getElem (by rw [HLEN.out]; exact hlt)⟩
      have HX := Lib.hid hx
      have HXO := Lib.hid (HOK.out x (List.mem_of_getElem? hx))
      obtain ⟨X, hX⟩ : ∃ a, xa = a := ⟨_, rfl⟩
      have HXX := Lib.hid hX
      have hrow := HROW.out
      rw [hX] at hrow ⊢
      rcases hrow with hnil | ⟨xb, off, hxb, hc0⟩
      · rw [hnil] at hx; cases hx
      subst hxb
      have hc := fun j v hv => cell_later (below_on HB0.out HB.out) (hc0 i x hx j v hv)
      have p0 := hc 0 _ rfl
      have p1 := hc 1 _ rfl
      have p2 := hc 2 _ rfl
      have p3 := hc 3 _ rfl
      have p4 := hc 4 _ rfl
      have p5 := hc 5 _ rfl
      rw [Nat.add_zero] at p0
      obtain ⟨A, hA⟩ : ∃ A, orS Mk.c R r i = A := ⟨_, rfl⟩
      have HA := Lib.hid hA
      have HAL : Hid (A < 2 ^ 64) := Lib.hid (by rw [← hA]; exact HLTF.out i)
      rw [hA]
      obtain ⟨D, hD⟩ : ∃ D, inR r i = D := ⟨_, rfl⟩
      have HD := Lib.hid hD
      have HHS : Hid (∀ V, Calls Try.prog 50 #[.int .u64 (r : Int), .int .i64 (i : Int)] V fun e w' => e = .returned (.bool D) ∧ V = w') := Lib.hid (fun V => hD ▸ inR_has r i V HR.out)
      clear hc hc0 hx hlt hX hA hD
      go_upto_region 5 with fail
      have hbn := below1 wr (.cells #[.int .u64 (x.t : Int), .int .u64 (x.f : Int), .int .u64 (x.a : Int), .int .u32 (x.n : Int), .int .u32 (x.r : Int), .int .u64 (x.c : Int)] 49)
      have hqn := alloc1 wr (.cells #[.int .u64 (x.t : Int), .int .u64 (x.f : Int), .int .u64 (x.a : Int), .int .u32 (x.n : Int), .int .u32 (x.r : Int), .int .u64 (x.c : Int)] 49) (Below.refl _ _)
      obtain ⟨V9, hV9⟩ : ∃ V, V = wr.alloc (.cells #[.int .u64 (x.t : Int), .int .u64 (x.f : Int), .int .u64 (x.a : Int), .int .u32 (x.n : Int), .int .u32 (x.r : Int), .int .u64 (x.c : Int)] 49) := ⟨_, rfl⟩
      rw [← hV9] at hbn hqn ⊢
      obtain ⟨g9, hg9⟩ : ∃ g, g = wr.heap.size := ⟨_, rfl⟩
      rw [← hg9] at hqn ⊢
      have HB9 := Lib.hid (below_on HB.out hbn)
      have HQ9 := Lib.hid hqn
      clear hbn hqn hV9 hg9 p0 p1 p2 p3 p4 p5
      go_wp2_with fail
      refine (HHS.out _).mono ?_
      rintro e w' ⟨rfl, rfl⟩
      cases D with
      | false =>
        go_wp2_with fail
        rw [← HXX.out]
        go_roundg (m - (i + 1))
        case rel => exact ⟨i + 1, k_next HI.out HLT.out, by go_num, by rw [orS_no HD.out, HA.out], HB9.out⟩
        case measure => exact k_less HI.out HLT.out
      | true =>
        have y0 := blk_cell HQ9.out 0 _ rfl; have y1 := blk_cell HQ9.out 1 _ rfl; have y2 := blk_cell HQ9.out 2 _ rfl; have y3 := blk_cell HQ9.out 3 _ rfl; have y4 := blk_cell HQ9.out 4 _ rfl; have y5 := blk_cell HQ9.out 5 _ rfl
        go_wp2_with fail
        refine (cl_c x _).mono ?_
        rintro e w1 ⟨rfl, hb⟩
        have HB1 := Lib.hid (below_on HB9.out hb)
        have hor := or64 HAL.out HXO.out.c
        clear hb y0 y1 y2 y3 y4 y5
        go_wp2_with fail
        clear hor
        rw [← HXX.out]
        go_roundg (m - (i + 1))
        case rel => exact ⟨i + 1, k_next HI.out HLT.out, by go_num, by rw [orS_yes HD.out HX.out, HA.out], HB1.out⟩
        case measure => exact k_less HI.out HLT.out
    · have d2 : ¬ (i : Int) < m := by omega
      have hin : orS Mk.c R r i = z := by rw [← HZ.out, show i = m by have := HI.out; omega]
      rw [hin]
      clear hlt hin
      go_wp2_with fail
      go_ret
      exact ⟨rfl, below_on HB0.out HB.out⟩

set_option maxHeartbeats 4000000 in
theorem need_is (za zb : Nat) (R : List Mk) (xa ya : Option Addr) (m n xc yc al pt tr r : Nat) (hok : ∀ x ∈ R, x.ok) (hr : r < 18446744073709551616) (hm : m ≤ 100000) (hlen : R.length = m) (w : World) (hl : RowAt 6 mkC w xa R) (hza : orS Mk.n R r m = za) (hzb : orS Mk.r R r m = zb) :
    Calls Try.prog 14 #[.agg #[.slice xa m xc, .slice ya n yc, .int .u64 (al : Int), .int .u32 (pt : Int), .int .u64 (tr : Int)], .int .u64 (r : Int)] w fun e w' => e = .returned (.tuple #[.int .u32 (za : Int), .int .u32 (zb : Int)]) ∧ Below w.heap.size w w' := by
  have HROW := Lib.hid hl
  have HLEN := Lib.hid hlen
  have HM := Lib.hid hm
  have HOK := Lib.hid hok
  have HR := Lib.hid hr
  have HZA := Lib.hid hza
  have HZB := Lib.hid hzb
  clear hl hlen hm hok hr hza hzb
  go_enter Try.func14, Try.ntmps14
  go_upto_region 1 with fail
  have hbw := below1 w (.cells #[.slice xa m xc, .slice ya n yc, .int .u64 (al : Int), .int .u32 (pt : Int), .int .u64 (tr : Int)] 36)
  have hq := alloc1 w (.cells #[.slice xa m xc, .slice ya n yc, .int .u64 (al : Int), .int .u32 (pt : Int), .int .u64 (tr : Int)] 36) (Below.refl _ _)
  obtain ⟨W, hW⟩ : ∃ W, W = w.alloc (.cells #[.slice xa m xc, .slice ya n yc, .int .u64 (al : Int), .int .u32 (pt : Int), .int .u64 (tr : Int)] 36) := ⟨_, rfl⟩
  rw [← hW] at hbw hq ⊢
  obtain ⟨gl, hgl⟩ : ∃ g, g = w.heap.size := ⟨_, rfl⟩
  rw [← hgl] at hq ⊢
  have HB0 : Hid (Below w.heap.size w W) := Lib.hid hbw
  have HQ := Lib.hid hq
  clear hbw hq hW hgl
  have KA : Hid (∀ w', Below W.heap.size W w' → Calls Try.prog 34 #[.agg #[.slice xa m xc, .slice ya n yc, .int .u64 (al : Int), .int .u32 (pt : Int), .int .u64 (tr : Int)], .int .u64 (r : Int), .func (.func 35) #[] #[]] w' fun e w'' => e = .returned (.int .u32 (za : Int)) ∧ Below W.heap.size W w'') := Lib.hid (fun w' hw' => (all_n za R xa ya m n xc yc al pt tr r HOK.out HR.out HM.out HLEN.out w' (HROW.out.below (below_on HB0.out hw')) (by first | exact HZA.out | exact HZB.out)).mono (fun _ _ h => ⟨h.1, below_on hw' h.2⟩))
  have KB : Hid (∀ w', Below W.heap.size W w' → Calls Try.prog 34 #[.agg #[.slice xa m xc, .slice ya n yc, .int .u64 (al : Int), .int .u32 (pt : Int), .int .u64 (tr : Int)], .int .u64 (r : Int), .func (.func 36) #[] #[]] w' fun e w'' => e = .returned (.int .u32 (zb : Int)) ∧ Below W.heap.size W w'') := Lib.hid (fun w' hw' => (all_r zb R xa ya m n xc yc al pt tr r HOK.out HR.out HM.out HLEN.out w' (HROW.out.below (below_on HB0.out hw')) (by first | exact HZA.out | exact HZB.out)).mono (fun _ _ h => ⟨h.1, below_on hw' h.2⟩))
  refine wp_region_calm (by kernel_rfl) ?_ ?_
  · kernel_rfl
  repeat first
   | go_big_quiet_skip
   | (go_big_quiet_want; go_big_quiet_op; go_big_quiet_on)
   | (with_reducible apply wpQuiet_step
      intro K hK
      go_simp
      first
        | (refine hK _ ?_; clear hK K)
        | (apply Exists.intro
           refine ⟨fun w' hw' => ?_, hK _ ?_⟩
           ·
             (first
              | with_reducible exact KA.out _ hw'
              | with_reducible exact KB.out _ hw'
              | (have g0 := blk_cell (blk_keep hw' HQ.out) 0 _ rfl
                 have g1 := blk_cell (blk_keep hw' HQ.out) 1 _ rfl
                 have g2 := blk_cell (blk_keep hw' HQ.out) 2 _ rfl
                 have g3 := blk_cell (blk_keep hw' HQ.out) 3 _ rfl
                 have g4 := blk_cell (blk_keep hw' HQ.out) 4 _ rfl
                 go_simp
                 first | done | with_reducible exact rfl | with_reducible exact ⟨rfl, rfl⟩ | with_reducible exact KA.out _ hw' | with_reducible exact KB.out _ hw'))
           clear hK K))
  refine wpQuiet_nil ?_
  intro w7 hw7
  have HB7 := Lib.hid (below_on HB0.out hw7)
  clear hw7
  go_wp2_with fail
  go_ret2
  exact ⟨rfl, HB7.out⟩
set_option maxHeartbeats 4000000 in
theorem clash_is (zc : Nat) (R : List Mk) (xa ya : Option Addr) (m n xc yc al pt tr r : Nat) (hok : ∀ x ∈ R, x.ok) (hr : r < 18446744073709551616) (hm : m ≤ 100000) (hlen : R.length = m) (w : World) (hl : RowAt 6 mkC w xa R) (hzc : orS Mk.c R r m = zc) :
    Calls Try.prog 16 #[.agg #[.slice xa m xc, .slice ya n yc, .int .u64 (al : Int), .int .u32 (pt : Int), .int .u64 (tr : Int)], .int .u64 (r : Int)] w fun e w' => e = .returned (.int .u64 (zc : Int)) ∧ Below w.heap.size w w' := by
  have HROW := Lib.hid hl
  have HLEN := Lib.hid hlen
  have HM := Lib.hid hm
  have HOK := Lib.hid hok
  have HR := Lib.hid hr
  have HZC := Lib.hid hzc
  clear hl hlen hm hok hr hzc
  go_enter Try.func16, Try.ntmps16
  go_upto_region 1 with fail
  have hbw := below1 w (.cells #[.slice xa m xc, .slice ya n yc, .int .u64 (al : Int), .int .u32 (pt : Int), .int .u64 (tr : Int)] 36)
  have hq := alloc1 w (.cells #[.slice xa m xc, .slice ya n yc, .int .u64 (al : Int), .int .u32 (pt : Int), .int .u64 (tr : Int)] 36) (Below.refl _ _)
  obtain ⟨W, hW⟩ : ∃ W, W = w.alloc (.cells #[.slice xa m xc, .slice ya n yc, .int .u64 (al : Int), .int .u32 (pt : Int), .int .u64 (tr : Int)] 36) := ⟨_, rfl⟩
  rw [← hW] at hbw hq ⊢
  obtain ⟨gl, hgl⟩ : ∃ g, g = w.heap.size := ⟨_, rfl⟩
  rw [← hgl] at hq ⊢
  have HB0 : Hid (Below w.heap.size w W) := Lib.hid hbw
  have HQ := Lib.hid hq
  clear hbw hq hW hgl
  have y0 := blk_cell HQ.out 0 _ rfl; have y1 := blk_cell HQ.out 1 _ rfl; have y2 := blk_cell HQ.out 2 _ rfl; have y3 := blk_cell HQ.out 3 _ rfl; have y4 := blk_cell HQ.out 4 _ rfl
  go_wp2_with fail
  refine (all_c zc R xa ya m n xc yc al pt tr r HOK.out HR.out HM.out HLEN.out _ (HROW.out.below HB0.out) HZC.out).mono ?_
  rintro e w1 ⟨rfl, hb⟩
  have HB1 := Lib.hid (below_on HB0.out hb)
  clear hb y0 y1 y2 y3 y4
  go_wp2_with fail
  go_ret
  exact ⟨rfl, HB1.out⟩

set_option maxHeartbeats 4000000 in
theorem rneed_is (zn : Nat) (zr : Nat) (R : List Mk) (xa ya : Option Addr) (m n xc yc al pt tr r : Nat) (hok : ∀ x ∈ R, x.ok) (hr : r < 18446744073709551616) (hm : m ≤ 100000) (hlen : R.length = m) (w : World) (hl : RowAt 6 mkC w xa R) (hzn : orS Mk.n R r m = zn) (hzr : orS Mk.r R r m = zr) :
    Calls Try.prog 15 #[.agg #[.slice xa m xc, .slice ya n yc, .int .u64 (al : Int), .int .u32 (pt : Int), .int .u64 (tr : Int)], .int .u64 (r : Int)] w fun e w' => e = .returned (.tuple #[.int .u32 (zn : Int), .int .u32 (zr : Int)]) ∧ Below w.heap.size w w' := by
  have HROW := Lib.hid hl
  have HLEN := Lib.hid hlen
  have HM := Lib.hid hm
  have HOK := Lib.hid hok
  have HR := Lib.hid hr
  obtain ⟨N, hN⟩ : ∃ N, min m 64 = N := ⟨_, rfl⟩
  have HN := Lib.hid hN
  have HZn : Hid (orS Mk.n R r N = zn) := Lib.hid (by rw [← hN, orS_min]; exact hzn)
  have HLn : Hid (∀ k, orS Mk.n R r k < 2 ^ 32) := Lib.hid (orS_lt (fun x hx => (hok x hx).n))
  have HZr : Hid (orS Mk.r R r N = zr) := Lib.hid (by rw [← hN, orS_min]; exact hzr)
  have HLr : Hid (∀ k, orS Mk.r R r k < 2 ^ 32) := Lib.hid (orS_lt (fun x hx => (hok x hx).r))
  clear hl hlen hm hok hr hN hzn hzr
  go_enter Try.func15, Try.ntmps15
  go_upto_region 1 with fail
  have hbw := below1 w (.cells #[.slice xa m xc, .slice ya n yc, .int .u64 (al : Int), .int .u32 (pt : Int), .int .u64 (tr : Int)] 42)
  have hq := alloc1 w (.cells #[.slice xa m xc, .slice ya n yc, .int .u64 (al : Int), .int .u32 (pt : Int), .int .u64 (tr : Int)] 42) (Below.refl _ _)
  obtain ⟨W, hW⟩ : ∃ W, W = w.alloc (.cells #[.slice xa m xc, .slice ya n yc, .int .u64 (al : Int), .int .u32 (pt : Int), .int .u64 (tr : Int)] 42) := ⟨_, rfl⟩
  rw [← hW] at hbw hq ⊢
  obtain ⟨gl, hgl⟩ : ∃ g, g = w.heap.size := ⟨_, rfl⟩
  rw [← hgl] at hq ⊢
  have HB0 : Hid (Below w.heap.size w W) := Lib.hid hbw
  have HQ := Lib.hid hq
  clear hbw hq hW hgl
  go_upto_region 3 with fail
  go_loopg [6, 7, 8] N (fun g an ar v wr => ∃ i : Nat, i + g = N ∧ v = .int .i64 (i : Int) ∧ an = .int .u32 (orS Mk.n R r i : Int) ∧ ar = .int .u32 (orS Mk.r R r i : Int) ∧ Below W.heap.size W wr)
  case atStart => exact ⟨0, by omega, rfl, by rw [orS_zero]; rfl, by rw [orS_zero]; rfl, Below.refl _ _⟩
  case round =>
    obtain ⟨i, hi, rfl, rfl, rfl, hbw⟩ := hrel
    have HI := Lib.hid hi
    have HB := Lib.hid hbw
    have l0 := blk_cell (blk_keep hbw HQ.out) 0 _ rfl
    clear hi hbw
    by_cases hlN : i < N
    · have hlt : i < m := by have := HN.out; omega
      have h64 : i ≤ 63 := by have := HN.out; omega
      have d1 : (0 : Int) ≤ i := by omega
      have d2 : (i : Int) < m := by omega
      have d3 : (i : Int) < 64 := by omega
      have e1 := k_succ hlt (Nat.le_trans HM.out (by decide))
      have HLT := Lib.hid hlN
      obtain ⟨x, hx⟩ : ∃ x, R[i]? = some x := ⟨_, List.getElem?_eq_getElem (by rw [HLEN.out]; exact hlt)⟩
      have HX := Lib.hid hx
      have HXO := Lib.hid (HOK.out x (List.mem_of_getElem? hx))
      obtain ⟨X, hX⟩ : ∃ a, xa = a := ⟨_, rfl⟩
      have HXX := Lib.hid hX
      have hrow := HROW.out
      rw [hX] at hrow l0 ⊢
      rcases hrow with hnil | ⟨xb, off, hxb, hc0⟩
      · rw [hnil] at hx; cases hx
      subst hxb
      have hc := fun j v hv => cell_later (below_on HB0.out HB.out) (hc0 i x hx j v hv)
      have pn := hc 3 _ rfl
      obtain ⟨An, hAn⟩ : ∃ A, orS Mk.n R r i = A := ⟨_, rfl⟩
      have HAn := Lib.hid hAn
      have HALn : Hid (An < 2 ^ 32) := Lib.hid (by rw [← hAn]; exact HLn.out i)
      rw [hAn]
      have pr := hc 4 _ rfl
      obtain ⟨Ar, hAr⟩ : ∃ A, orS Mk.r R r i = A := ⟨_, rfl⟩
      have HAr := Lib.hid hAr
      have HALr : Hid (Ar < 2 ^ 32) := Lib.hid (by rw [← hAr]; exact HLr.out i)
      rw [hAr]
      obtain ⟨D, hD⟩ : ∃ D, inR r i = D := ⟨_, rfl⟩
      have HD := Lib.hid hD
      have HHS : Hid (∀ V, Calls Try.prog 18 #[.int .u64 (r : Int), .int .i64 (i : Int)] V fun e w' => e = .returned (.bool D) ∧ V = w') := Lib.hid (fun V => hD ▸ inR_rhas r i V h64 HR.out)
      clear hc hc0 hx hlt h64 hlN hX hD hAn hAr
      go_wp2_with fail
      refine (HHS.out _).mono ?_
      rintro e w' ⟨rfl, rfl⟩
      cases D with
      | false =>
        go_wp2_with fail
        rw [← HXX.out]
        go_roundg (N - (i + 1))
        case rel => exact ⟨i + 1, k_next HI.out HLT.out, by go_num, by rw [orS_no HD.out, HAn.out], by rw [orS_no HD.out, HAr.out], HB.out⟩
        case measure => exact k_less HI.out HLT.out
      | true =>
        have hon := or32 HALn.out HXO.out.n
        have hor := or32 HALr.out HXO.out.r
        go_wp2_with fail
        rw [← HXX.out]
        go_roundg (N - (i + 1))
        case rel => exact ⟨i + 1, k_next HI.out HLT.out, by go_num, by rw [orS_yes HD.out HX.out, HAn.out], by rw [orS_yes HD.out HX.out, HAr.out], HB.out⟩
        case measure => exact k_less HI.out HLT.out
    · have hiN : i = N := by have := HI.out; omega
      have hzn : orS Mk.n R r i = zn := by rw [hiN]; exact HZn.out
      rw [hzn]
      have hzr : orS Mk.r R r i = zr := by rw [hiN]; exact HZr.out
      rw [hzr]
      by_cases hlm : i < m
      · have d2 : (i : Int) < m := by omega
        have d3 : ¬ (i : Int) < 64 := by have := HN.out; omega
        clear hlN hiN hlm hzn hzr
        go_wp2_with fail
        go_ret2
        exact ⟨rfl, below_on HB0.out HB.out⟩
      · have d2 : ¬ (i : Int) < m := by omega
        clear hlN hiN hlm hzn hzr
        go_wp2_with fail
        go_ret2
        exact ⟨rfl, below_on HB0.out HB.out⟩

set_option maxHeartbeats 4000000 in
theorem rclash_is (zc : Nat) (R : List Mk) (xa ya : Option Addr) (m n xc yc al pt tr r : Nat) (hok : ∀ x ∈ R, x.ok) (hr : r < 18446744073709551616) (hm : m ≤ 100000) (hlen : R.length = m) (w : World) (hl : RowAt 6 mkC w xa R) (hzc : orS Mk.c R r m = zc) :
    Calls Try.prog 17 #[.agg #[.slice xa m xc, .slice ya n yc, .int .u64 (al : Int), .int .u32 (pt : Int), .int .u64 (tr : Int)], .int .u64 (r : Int)] w fun e w' => e = .returned (.int .u64 (zc : Int)) ∧ Below w.heap.size w w' := by
  have HROW := Lib.hid hl
  have HLEN := Lib.hid hlen
  have HM := Lib.hid hm
  have HOK := Lib.hid hok
  have HR := Lib.hid hr
  obtain ⟨N, hN⟩ : ∃ N, min m 64 = N := ⟨_, rfl⟩
  have HN := Lib.hid hN
  have HZc : Hid (orS Mk.c R r N = zc) := Lib.hid (by rw [← hN, orS_min]; exact hzc)
  have HLc : Hid (∀ k, orS Mk.c R r k < 2 ^ 64) := Lib.hid (orS_lt (fun x hx => (hok x hx).c))
  clear hl hlen hm hok hr hN hzc
  go_enter Try.func17, Try.ntmps17
  go_upto_region 1 with fail
  have hbw := below1 w (.cells #[.slice xa m xc, .slice ya n yc, .int .u64 (al : Int), .int .u32 (pt : Int), .int .u64 (tr : Int)] 42)
  have hq := alloc1 w (.cells #[.slice xa m xc, .slice ya n yc, .int .u64 (al : Int), .int .u32 (pt : Int), .int .u64 (tr : Int)] 42) (Below.refl _ _)
  obtain ⟨W, hW⟩ : ∃ W, W = w.alloc (.cells #[.slice xa m xc, .slice ya n yc, .int .u64 (al : Int), .int .u32 (pt : Int), .int .u64 (tr : Int)] 42) := ⟨_, rfl⟩
  rw [← hW] at hbw hq ⊢
  obtain ⟨gl, hgl⟩ : ∃ g, g = w.heap.size := ⟨_, rfl⟩
  rw [← hgl] at hq ⊢
  have HB0 : Hid (Below w.heap.size w W) := Lib.hid hbw
  have HQ := Lib.hid hq
  clear hbw hq hW hgl
  go_upto_region 3 with fail
  go_loopg [5, 6] N (fun g ac v wr => ∃ i : Nat, i + g = N ∧ v = .int .i64 (i : Int) ∧ ac = .int .u64 (orS Mk.c R r i : Int) ∧ Below W.heap.size W wr)
  case atStart => exact ⟨0, by omega, rfl, by rw [orS_zero]; rfl, Below.refl _ _⟩
  case round =>
    obtain ⟨i, hi, rfl, rfl, hbw⟩ := hrel
    have HI := Lib.hid hi
    have HB := Lib.hid hbw
    have l0 := blk_cell (blk_keep hbw HQ.out) 0 _ rfl
    clear hi hbw
    by_cases hlN : i < N
    · have hlt : i < m := by have := HN.out; omega
      have h64 : i ≤ 63 := by have := HN.out; omega
      have d1 : (0 : Int) ≤ i := by omega
      have d2 : (i : Int) < m := by omega
      have d3 : (i : Int) < 64 := by omega
      have e1 := k_succ hlt (Nat.le_trans HM.out (by decide))
      have HLT := Lib.hid hlN
      obtain ⟨x, hx⟩ : ∃ x, R[i]? = some x := ⟨_, List.getElem?_eq_getElem (by rw [HLEN.out]; exact hlt)⟩
      have HX := Lib.hid hx
      have HXO := Lib.hid (HOK.out x (List.mem_of_getElem? hx))
      obtain ⟨X, hX⟩ : ∃ a, xa = a := ⟨_, rfl⟩
      have HXX := Lib.hid hX
      have hrow := HROW.out
      rw [hX] at hrow l0 ⊢
      rcases hrow with hnil | ⟨xb, off, hxb, hc0⟩
      · rw [hnil] at hx; cases hx
      subst hxb
      have hc := fun j v hv => cell_later (below_on HB0.out HB.out) (hc0 i x hx j v hv)
      have pc := hc 5 _ rfl
      obtain ⟨Ac, hAc⟩ : ∃ A, orS Mk.c R r i = A := ⟨_, rfl⟩
      have HAc := Lib.hid hAc
      have HALc : Hid (Ac < 2 ^ 64) := Lib.hid (by rw [← hAc]; exact HLc.out i)
      rw [hAc]
      obtain ⟨D, hD⟩ : ∃ D, inR r i = D := ⟨_, rfl⟩
      have HD := Lib.hid hD
      have HHS : Hid (∀ V, Calls Try.prog 18 #[.int .u64 (r : Int), .int .i64 (i : Int)] V fun e w' => e = .returned (.bool D) ∧ V = w') := Lib.hid (fun V => hD ▸ inR_rhas r i V h64 HR.out)
      clear hc hc0 hx hlt h64 hlN hX hD hAc
      go_wp2_with fail
      refine (HHS.out _).mono ?_
      rintro e w' ⟨rfl, rfl⟩
      cases D with
      | false =>
        go_wp2_with fail
        rw [← HXX.out]
        go_roundg (N - (i + 1))
        case rel => exact ⟨i + 1, k_next HI.out HLT.out, by go_num, by rw [orS_no HD.out, HAc.out], HB.out⟩
        case measure => exact k_less HI.out HLT.out
      | true =>
        have hoc := or64 HALc.out HXO.out.c
        go_wp2_with fail
        rw [← HXX.out]
        go_roundg (N - (i + 1))
        case rel => exact ⟨i + 1, k_next HI.out HLT.out, by go_num, by rw [orS_yes HD.out HX.out, HAc.out], HB.out⟩
        case measure => exact k_less HI.out HLT.out
    · have hiN : i = N := by have := HI.out; omega
      have hzc : orS Mk.c R r i = zc := by rw [hiN]; exact HZc.out
      rw [hzc]
      by_cases hlm : i < m
      · have d2 : (i : Int) < m := by omega
        have d3 : ¬ (i : Int) < 64 := by have := HN.out; omega
        clear hlN hiN hlm hzc
        go_wp2_with fail
        go_ret
        exact ⟨rfl, below_on HB0.out HB.out⟩
      · have d2 : ¬ (i : Int) < m := by omega
        clear hlN hiN hlm hzc
        go_wp2_with fail
        go_ret
        exact ⟨rfl, below_on HB0.out HB.out⟩
end Go.Proofs.Ytififkielmddpaa
