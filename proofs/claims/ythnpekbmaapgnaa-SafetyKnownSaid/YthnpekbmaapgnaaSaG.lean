/-
  Layer 29: the document's shown, clash.
-/
import Derived.Test.YthnpekbmaapgnaaSaF
import Derived.Test.YthnpekbmaapgnaaCoC
import Derived.Test.YthnpekbmaapgnaaRef07
namespace Go.Proofs.Ythnpekbmaapgnaa
open Go.RowKit
set_option maxRecDepth 100000
theorem own_snoc {w : World} {B : Nat} {v : Value} {R : List Rt} {x : Rt} {X : List Value} (hX : X = rtC x) (h : w.ownsRow B 54 6 v (R.length + 1) (R.flatMap rtC ++ X)) : w.ownsRow B 54 6 v (R ++ [x]).length ((R ++ [x]).flatMap rtC) := by
  rw [List.flatMap_append, List.length_append]
  show w.ownsRow B 54 6 v (R.length + 1) (R.flatMap rtC ++ (rtC x ++ []))
  rw [List.append_nil, ← hX]
  exact h
def clF (L : Lay) (R : List Rt) (i k : Nat) : Bool := match R[i]?, R[k]? with | some x, some y => conflictS L x y | _, _ => false
theorem claR_f {L : Lay} {R : List Rt} : claR L R = (List.range R.length).any (fun i => (List.range i).any (fun k => clF L R i k)) := rfl
theorem clf_at {L : Lay} {R : List Rt} {i k : Nat} {x y : Rt} (hi : R[i]? = some x) (hk : R[k]? = some y) : clF L R i k = conflictS L x y := by unfold clF; rw [hi, hk]
theorem rg_no {f : Nat → Bool} {k : Nat} (h : (List.range k).any f = false) (h2 : f k = false) : (List.range (k + 1)).any f = false := by rw [List.range_succ, List.any_append, h]; simp [h2]
theorem rg_yes {f : Nat → Bool} {n k : Nat} (hk : k < n) (h : f k = true) : (List.range n).any f = true := List.any_eq_true.2 ⟨k, List.mem_range.2 hk, h⟩
theorem rg_zero {f : Nat → Bool} : (List.range 0).any f = false := rfl
theorem tk_no {α : Type} {f : α → Bool} {l : List α} {k : Nat} {x : α} (hx : l[k]? = some x) (h : (l.take k).any f = false) (h2 : f x = false) : (l.take (k + 1)).any f = false := by
  rw [List.take_add_one, hx, List.any_append, h]
  simp [h2]
theorem tk_yes {α : Type} {f : α → Bool} {l : List α} {k : Nat} {x : α} (hx : l[k]? = some x) (h2 : f x = true) : l.any f = true := List.any_eq_true.2 ⟨x, List.mem_of_getElem? hx, h2⟩
theorem tk_all {α : Type} {f : α → Bool} {l : List α} {k : Nat} (h : (l.take k).any f = false) (hk : l.length ≤ k) : l.any f = false := by rw [List.take_of_length_le hk] at h; exact h
theorem tk_zero {α : Type} {f : α → Bool} {l : List α} : (l.take 0).any f = false := by rw [List.take_zero]; rfl
theorem lp_lt {i g m : Nat} (h : i + g = m) (hg : i < m) : 0 < g := by omega
attribute [local irreducible] ixF Sl.v pairS hasBit mayS Rt.tr Rt.nd checkS pw claI occS lieS turS shI shR withBit outS cycS conflictS

set_option maxHeartbeats 8000000 in
theorem rshown_is (L : Lay) (p q : Nat) (hp : p < 18446744073709551616) (w : World) (hL : LayAt w L) (hs : L.rt.l.length ≤ 64) :
    Calls Try.prog 37 #[.agg #[L.se.v, L.po.v, L.sg.v, L.rt.v], .agg #[.int .u64 (p : Int), .int .u32 (q : Int)]] w fun e w' => ∃ x c, e = .returned (.slice x (shR L p L.rt.l.length).length c) ∧ RowAt 6 rtC w' x (shR L p L.rt.l.length) ∧ Below w.heap.size w w' := by
  obtain ⟨n1, hn1⟩ : ∃ n, L.se.l.length = n := ⟨_, rfl⟩
  obtain ⟨n2, hn2⟩ : ∃ n, L.po.l.length = n := ⟨_, rfl⟩
  obtain ⟨n3, hn3⟩ : ∃ n, L.sg.l.length = n := ⟨_, rfl⟩
  obtain ⟨n4, hn4⟩ : ∃ n, L.rt.l.length = n := ⟨_, rfl⟩
  have HLW := Lib.hid hL
  have HN4 := Lib.hid hn4
  have HP := Lib.hid hp
  have HS4 : Hid (n4 ≤ 64) := Lib.hid (by rw [← hn4]; exact hs)
  rw [slv hn1, slv hn2, slv hn3, slv hn4]
  rw [hn4]
  clear hn1 hn2 hn3 hn4 hL hp hs
  go_enter Try.func37, Try.ntmps37
  go_upto_region 1 with fail
  refine name_last (os := [.cells #[.slice L.se.a n1 L.se.c, .slice L.po.a n2 L.po.c, .slice L.sg.a n3 L.sg.c, .slice L.rt.a n4 L.rt.c] 27, .cells #[.int .u64 (p : Int), .int .u32 (q : Int)] 34]) (w0 := w) rfl ?_
  intro W hat hbw
  obtain ⟨gl, hgl⟩ : ∃ g, g = w.heap.size := ⟨_, rfl⟩
  obtain ⟨go, hgo⟩ : ∃ g, g = gl + 1 := ⟨_, rfl⟩
  have q0 := hat 0 _ rfl
  have q1 := hat 1 _ rfl
  rw [Nat.add_zero, ← hgl] at q0
  rw [← hgl, ← hgo] at q1
  rw [← hgl, ← hgo]
  have HQL := Lib.hid q0
  have HQO := Lib.hid q1
  have HB0 := Lib.hid hbw
  clear hat hbw hgl hgo q0 q1
  go_upto_region 3 with fail
  go_loopg [5, 6] n4 (fun g v i wr => ∃ k : Nat, k + g = n4 ∧ i = .int .i64 (k : Int) ∧ wr.ownsRow W.heap.size 54 6 v (shR L p k).length ((shR L p k).flatMap rtC) ∧ Below W.heap.size W wr)
  case atStart => exact ⟨0, by omega, rfl, by rw [shR_zero]; exact World.ownsRow_nil _ _ _ _, Below.refl _ _⟩
  case round =>
    obtain ⟨k, hk, rfl, hO, hbw⟩ := hrel
    have HK := Lib.hid hk
    have HO := Lib.hid hO
    have HB := Lib.hid hbw
    have q0 := blk_keep hbw HQL.out
    have q1 := blk_keep hbw HQO.out
    have l3 := blk_cell q0 3 _ rfl
    have o0 := blk_cell q1 0 _ rfl
    clear hO hbw q0 q1 hk
    by_cases hlt : k < n4
    · have d1 : (0 : Int) ≤ k := by omega
      have d2 : (k : Int) < n4 := by omega
      have e1 := wsucc hlt HS4.out
      have HLT := Lib.hid hlt
      rcases HLW.out.rt.row with hnil | ⟨xb, off, hxb, hc0⟩
      · have := HN4.out; rw [hnil] at this; simp at this; omega
      have hc := fun i c hi j v hv => cell_later HB.out (cell_later HB0.out (hc0 i c hi j v hv))
      obtain ⟨x, hyx⟩ : ∃ y, L.rt.l[k]? = some y := ⟨_, List.getElem?_eq_getElem (by rw [HN4.out]; exact hlt)⟩
      have z0 := hc k _ hyx 0 _ rfl
      have z1 := hc k _ hyx 1 _ rfl
      have z2 := hc k _ hyx 2 _ rfl
      have z3 := hc k _ hyx 3 _ rfl
      have z4 := hc k _ hyx 4 _ rfl
      have z5 := hc k _ hyx 5 _ rfl
      rw [Nat.add_zero] at z0
      obtain ⟨p1, hp1⟩ : ∃ n, x.pa.l.length = n := ⟨_, rfl⟩
      obtain ⟨p2, hp2⟩ : ∃ n, x.po.l.length = n := ⟨_, rfl⟩
      obtain ⟨p3, hp3⟩ : ∃ n, x.ov.l.length = n := ⟨_, rfl⟩
      obtain ⟨p4, hp4⟩ : ∃ n, x.fl.l.length = n := ⟨_, rfl⟩
      rw [slv hp1] at z2
      rw [slv hp2] at z3
      rw [slv hp3] at z4
      rw [slv hp4] at z5
      have HZA := Lib.hid (And.intro z0 (And.intro z1 (And.intro z2 (And.intro z3 (And.intro z4 z5)))))
      clear z0 z1 z2 z3 z4 z5
      obtain ⟨z0, z1, z2, z3, z4, z5⟩ := HZA.out
      have HYX := Lib.hid hyx
      have HXL : Hid ([.string x.nm, .int .i64 x.sg, .slice x.pa.a p1 x.pa.c, .slice x.po.a p2 x.po.c, .slice x.ov.a p3 x.ov.c, .slice x.fl.a p4 x.fl.c] = rtC x) := Lib.hid (by unfold rtC; rw [slv hp1, slv hp2, slv hp3, slv hp4])
      obtain ⟨D, hD⟩ : ∃ D, hasBit p k = D := ⟨_, rfl⟩
      have HD := Lib.hid hD
      obtain ⟨X, hX⟩ : ∃ x, L.rt.a = x := ⟨_, rfl⟩
      have HXX := Lib.hid hX
      rw [hX] at l3 hxb ⊢
      subst hxb
      have HAS := Lib.hid (fun V => by have h := has_any p k V (by have := HS4.out; omega) HP.out; rw [hD] at h; exact h)
      clear hc hc0 hyx hX hp1 hp2 hp3 hp4 hlt hD
      go_wp2_with fail
      refine (HAS.out _).mono ?_
      rintro e w' ⟨rfl, rfl⟩
      cases D with
      | false =>
        go_wp2_with fail
        rw [← HXX.out]
        go_roundg (n4 - (k + 1))
        case rel => exact ⟨k + 1, lp_next HK.out HLT.out, by go_num, by rw [shR_no HD.out]; exact HO.out, HB.out⟩
        case measure => exact lp_less HK.out HLT.out
      | true =>
        have HONE : Hid (∀ u ∈ ([.string x.nm, .int .i64 x.sg, .slice x.pa.a p1 x.pa.c, .slice x.po.a p2 x.po.c, .slice x.ov.a p3 x.ov.c, .slice x.fl.a p4 x.fl.c] : List Value), u.oneCell' = true) := Lib.hid (by rw [HXL.out]; exact rt_one x)
        obtain ⟨nL, hnL⟩ : ∃ n, (shR L p k).length = n := ⟨_, rfl⟩
        have HNL := Lib.hid hnL
        have HRL : Hid (nL ≤ 64) := Lib.hid (by rw [← hnL, shR_len (by have := HLT.out; have := HN4.out; omega)]; have := shI_len p k; have := HLT.out; have := HS4.out; omega)
        have HOW := Lib.hid (own_below (below1 wr (Obj.cells [.string x.nm, .int .i64 x.sg, .slice x.pa.a p1 x.pa.c, .slice x.po.a p2 x.po.c, .slice x.ov.a p3 x.ov.c, .slice x.fl.a p4 x.fl.c].toArray 54)) HO.out)
        have HSR : Hid (SrcAt (wr.alloc (Obj.cells [.string x.nm, .int .i64 x.sg, .slice x.pa.a p1 x.pa.c, .slice x.po.a p2 x.po.c, .slice x.ov.a p3 x.ov.c, .slice x.fl.a p4 x.fl.c].toArray 54)) (some ⟨wr.heap.size, 0, none⟩) 1 [.string x.nm, .int .i64 x.sg, .slice x.pa.a p1 x.pa.c, .slice x.po.a p2 x.po.c, .slice x.ov.a p3 x.ov.c, .slice x.fl.a p4 x.fl.c]) := Lib.hid (src_blk (alloc1 wr (Obj.cells [.string x.nm, .int .i64 x.sg, .slice x.pa.a p1 x.pa.c, .slice x.po.a p2 x.po.c, .slice x.ov.a p3 x.ov.c, .slice x.fl.a p4 x.fl.c].toArray 54) (Below.refl _ _)) rfl HONE.out)
        have HG : Hid (W.heap.size ≤ (wr.alloc (Obj.cells [.string x.nm, .int .i64 x.sg, .slice x.pa.a p1 x.pa.c, .slice x.po.a p2 x.po.c, .slice x.ov.a p3 x.ov.c, .slice x.fl.a p4 x.fl.c].toArray 54)).heap.size) := Lib.hid (Nat.le_trans HB.out.size (below1 wr (Obj.cells [.string x.nm, .int .i64 x.sg, .slice x.pa.a p1 x.pa.c, .slice x.po.a p2 x.po.c, .slice x.ov.a p3 x.ov.c, .slice x.fl.a p4 x.fl.c].toArray 54)).size)
        rw [hnL] at HOW
        obtain ⟨iR, hR, hR0, hR1, hR2⟩ := info_parts info_rt9
        clear hnL
        go_wp2_with (at_builtin; refine wpList_append_src rfl _ _ 25 rfl W.heap.size 54 iR (.agg #[.string ⟨#[]⟩, .int .i64 0, .slice none 0 0, .slice none 0 0, .slice none 0 0, .slice none 0 0]) 6 120 Try.underlying25 hR hR0 hR1 hR2 rfl (by decide) _ nL ((shR L p k).flatMap rtC) rfl HOW.out (some ⟨wr.heap.size, 0, none⟩) 1 1 [.string x.nm, .int .i64 x.sg, .slice x.pa.a p1 x.pa.c, .slice x.po.a p2 x.po.c, .slice x.ov.a p3 x.ov.c, .slice x.fl.a p4 x.fl.c] rfl rfl HSR.out (by have := HRL.out; unfold maxLen; omega) (by have := HRL.out; omega) HG.out ?_; intro v5 W5 hown5 hg5)
        have hB7 : Below W.heap.size W W5 := (HB.out.alloc HB.out.size _).grown hg5 HG.out (fun k hk => (HOW.out.lt _ hk).1)
        rw [← HXX.out]
        go_roundg (n4 - (k + 1))
        case rel => exact ⟨k + 1, lp_next HK.out HLT.out, by go_num, by rw [shR_yes HD.out HYX.out]; exact own_snoc HXL.out (by rw [HNL.out]; exact hown5), hB7⟩
        case measure => exact lp_less HK.out HLT.out
    · have d2 : ¬ ((k : Int) < n4) := by omega
      have hkn : k = n4 := by have := HK.out; omega
      obtain ⟨x9, c9, h9, hr9⟩ := own_rowat rt_len HO.out
      subst h9
      have HR9 := Lib.hid hr9
      have HKN := Lib.hid hkn
      clear hr9 hkn
      go_wp2_with fail
      go_ret
      exact ⟨x9, ⟨c9, by rw [← HKN.out]; rfl⟩, by rw [← HKN.out]; exact HR9.out, below_on HB0.out HB.out⟩
end Go.Proofs.Ythnpekbmaapgnaa
