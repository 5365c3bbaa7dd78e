/-
  The statement ConflictApart: the plain law, the walk.
-/
import Derived.Test.YthlnnlemnbpndaaCoQ
import Derived.Test.YthlnnlemnbpndaaTpH
import Derived.Test.YthlnnlemnbpndaaCoV
namespace Go.Proofs.Ythlnnlemnbpndaa
open Go.RowKit
set_option maxRecDepth 100000
theorem apart_parts {L : Lay} {a b : Rt} (h : conflictS L a b = false) : a.sg ≠ b.sg ∧ (∀ s ∈ a.tr, hasI b.tr s = false) ∧ ∀ q ∈ ptsR a b 0 L.po.l, q = false := by
  unfold conflictS reasonsS at h
  rw [List.any_cons, List.any_append, Bool.or_eq_false_iff, Bool.or_eq_false_iff] at h
  obtain ⟨h1, h2, h3⟩ := h
  refine ⟨fun e => ?_, fun s hs => ?_, fun q hq => ?_⟩
  · simp [e] at h1
  · rw [List.any_eq_false] at h2
    have := h2 _ (List.mem_map.2 ⟨s, hs, rfl⟩)
    simpa using this
  · rw [List.any_eq_false] at h3
    simpa using h3 q hq
theorem apart_tr {L : Lay} {a b : Rt} (h : conflictS L a b = false) {i k : Nat} {s u : Int} (hi : a.tr[i]? = some s) (hk : b.tr[k]? = some u) : s ≠ u := by
  rintro rfl
  have h1 := (apart_parts h).2.1 s (List.mem_of_getElem? hi)
  unfold hasI at h1
  rw [List.any_eq_false] at h1
  have := h1 s (List.mem_of_getElem? hk)
  simp at this
theorem formed_dup {L : Lay} {r : Rt} (h : formedS L r = true) : (r.nd.map (·.1)).Nodup := by
  have : dupN [] (r.po.l ++ r.fl.l) = false := by
    cases hd : dupN [] (r.po.l ++ r.fl.l) with
    | false => rfl
    | true => rw [fs_3 hd] at h; cases h
  rw [dupN_map, dupI_iff] at this
  exact this.1
theorem apart_nd {L : Lay} {a b : Rt} (h : conflictS L a b = false) (ha : formedS L a = true) (hb : formedS L b = true) (oa : RtOk L a) {i k : Nat} {p : Int} {x y : Bool} (hi : a.nd[i]? = some (p, x)) (hk : b.nd[k]? = some (p, y)) : x = y := by
  have m1 := ndAt_mem (formed_dup ha) (List.mem_of_getElem? hi)
  have m2 := ndAt_mem (formed_dup hb) (List.mem_of_getElem? hk)
  have hr : 0 ≤ p ∧ p < (L.po.l.length : Int) := by
    have hm : (p, x) ∈ a.po.l ++ a.fl.l := List.mem_of_getElem? hi
    rcases List.mem_append.1 hm with hm | hm
    · exact belowB_mem oa.qb p (List.mem_map.2 ⟨_, hm, rfl⟩)
    · exact belowB_mem oa.fb p (List.mem_map.2 ⟨_, hm, rfl⟩)
  obtain ⟨j, rfl⟩ : ∃ j : Nat, p = j := ⟨p.toNat, by omega⟩
  obtain ⟨q, hq⟩ : ∃ q, L.po.l[j]? = some q := ⟨_, List.getElem?_eq_getElem (by omega)⟩
  have h1 := ptsR_get (a := a) (b := b) (k := 0) hq
  rw [Nat.zero_add, m1, m2] at h1
  have h2 := (apart_parts h).2.2 _ (List.mem_of_getElem? h1)
  unfold ptBad at h2
  cases x <;> cases y <;> simp at h2 <;> rfl
theorem ok_formed {L : Lay} (h : (checkS L).1 = 0) {r : Rt} (hr : r ∈ L.rt.l) : formedS L r = true := by
  rcases check_cases L with ⟨h1, h2⟩ | ⟨h1, h2, h3⟩ | ⟨h1, h2, z, h3⟩
  · rw [h2] at h; cases h
  · exact h2 r hr
  · rw [h3] at h; cases h
/-- two boxes of routes, made in any order -/
def TwoBox (w wx : World) (g1 g2 : Nat) (A B : Array Value) : Prop :=
  wx.heap[g1]? = some (.cells A 44) ∧ wx.heap[g2]? = some (.cells B 44) ∧ Below w.heap.size w wx
theorem lp_next {k g n : Nat} (h : k + g = n) (hlt : k < n) : k + 1 + (n - (k + 1)) = n := by omega
theorem lp_less {k g n : Nat} (h : k + g = n) (hlt : k < n) : n - (k + 1) < g := by omega
theorem two_up (w : World) (A B : Array Value) : TwoBox w ((w.alloc (.cells A 44)).alloc (.cells B 44)).drew w.heap.size (w.heap.size + 1) A B := by
  have h := allocs_at [.cells A 44, .cells B 44] w
  exact ⟨h 0 _ rfl, h 1 _ rfl, (allocs_below [.cells A 44, .cells B 44] w).drew⟩
theorem two_down (w : World) (A B : Array Value) : TwoBox w ((w.alloc (.cells B 44)).alloc (.cells A 44)).drew (w.heap.size + 1) w.heap.size A B := by
  have h := allocs_at [.cells B 44, .cells A 44] w
  exact ⟨h 1 _ rfl, h 0 _ rfl, (allocs_below [.cells B 44, .cells A 44] w).drew⟩
theorem lay_own' {w : World} {v0 v1 v2 v3 : Value} {g : Nat} (h : w.heap[g]? = some (.cells #[v0, v1, v2, v3] 27)) : w.cell? ⟨g, 0, none⟩ = some v0 ∧ w.cell? ⟨g, 1, none⟩ = some v1 ∧ w.cell? ⟨g, 2, none⟩ = some v2 ∧ w.cell? ⟨g, 3, none⟩ = some v3 :=
  ⟨blk_cell h 0 _ rfl, blk_cell h 1 _ rfl, blk_cell h 2 _ rfl, blk_cell h 3 _ rfl⟩
theorem below_al {w W : World} (h : Below w.heap.size w W) (o : Obj) : Below w.heap.size w (W.alloc o) := below_on h (below1 W o)
theorem TwoBox.out {w wx : World} {g1 g2 : Nat} {A B : Array Value} (h : TwoBox w wx g1 g2 A B) : wx.heap[g1]? = some (.cells A 44) ∧ wx.heap[g2]? = some (.cells B 44) ∧ Below w.heap.size w wx := h
attribute [local irreducible] Sl.v checkS weightS pairS cofL tabL mayS tabS rowS hasBit pw Rt.tr Rt.nd conflictS formedS TwoBox

set_option maxHeartbeats 8000000 in
theorem conflictApart_is (L : Lay) (a b : Int) (w : World) (hL : LayAt w L) : Calls Try.prog 5 #[.agg #[L.se.v, L.po.v, L.sg.v, L.rt.v], .int .i64 a, .int .i64 b] w fun e w' => e = .returned (.bool true) ∧ Below w.heap.size w w' := by
  obtain ⟨n1, hn1⟩ : ∃ n, L.se.l.length = n := ⟨_, rfl⟩
  obtain ⟨n2, hn2⟩ : ∃ n, L.po.l.length = n := ⟨_, rfl⟩
  obtain ⟨n3, hn3⟩ : ∃ n, L.sg.l.length = n := ⟨_, rfl⟩
  obtain ⟨n4, hn4⟩ : ∃ n, L.rt.l.length = n := ⟨_, rfl⟩
  have b0 := below1 w (.cells #[.slice L.se.a n1 L.se.c, .slice L.po.a n2 L.po.c, .slice L.sg.a n3 L.sg.c, .slice L.rt.a n4 L.rt.c] 27)
  have hq := alloc1 w (.cells #[.slice L.se.a n1 L.se.c, .slice L.po.a n2 L.po.c, .slice L.sg.a n3 L.sg.c, .slice L.rt.a n4 L.rt.c] 27) (Below.refl _ _)
  obtain ⟨W, hW⟩ : ∃ W, W = w.alloc (.cells #[.slice L.se.a n1 L.se.c, .slice L.po.a n2 L.po.c, .slice L.sg.a n3 L.sg.c, .slice L.rt.a n4 L.rt.c] 27) := ⟨_, rfl⟩
  rw [← hW] at b0 hq
  have hLW := hL.below b0
  obtain ⟨z, hz⟩ : ∃ z, weightS 1000 L = z := ⟨_, rfl⟩
  have KW : Hid (∀ w', Below W.heap.size W w' → Calls Try.prog 7 #[.agg #[L.se.v, L.po.v, L.sg.v, L.rt.v], .int .i64 1000] w' fun e w'' => e = .returned (.int .i64 z) ∧ Below W.heap.size W w'') := Lib.hid (fun w' hw' => hz ▸ (weight_is 1000 L w' (hLW.below hw')).mono (fun _ _ h => ⟨h.1, below_on hw' h.2⟩))
  have KWO : Hid (∀ w', Below W.heap.size W w' → Calls Try.prog 8 #[] w' fun e w'' => e = .returned (.bool true) ∧ Below W.heap.size W w'') := Lib.hid (fun w' hw' => (works_is w').mono (fun _ _ h => ⟨h.1, below_on hw' h.2⟩))
  obtain ⟨c, hc1⟩ : ∃ c, (checkS L).1 = c := ⟨_, rfl⟩
  obtain ⟨d, hd1⟩ : ∃ c, (checkS L).2 = c := ⟨_, rfl⟩
  obtain ⟨D, hD⟩ : ∃ D, pairS L a b = D := ⟨_, rfl⟩
  have KC : Hid (∀ w', Below W.heap.size W w' → Calls Try.prog 14 #[.agg #[L.se.v, L.po.v, L.sg.v, L.rt.v]] w' fun e w'' => e = .returned (.tuple #[.int .i64 c, .int .i64 d]) ∧ Below W.heap.size W w'') := Lib.hid (fun w' hw' => (hc1 ▸ hd1 ▸ check_is L w' (hLW.below hw')).mono (fun _ _ h => ⟨h.1, below_on hw' h.2⟩))
  have KP : Hid (∀ w', Below W.heap.size W w' → Calls Try.prog 13 #[.agg #[L.se.v, L.po.v, L.sg.v, L.rt.v], .int .i64 a, .int .i64 b] w' fun e w'' => e = .returned (.bool D) ∧ Below W.heap.size W w'') := Lib.hid (fun w' hw' => (pair_is L a b D hD w' (hLW.below hw')).mono (fun _ _ h => ⟨h.1, below_on hw' h.2⟩))
  have HC1 := Lib.hid hc1
  have HD := Lib.hid hD
  clear hc1 hd1 hD
  have HZ := Lib.hid hz
  have HN4 := Lib.hid hn4
  rw [slv hn1, slv hn2, slv hn3, slv hn4] at KW KC KP
  rw [slv hn1, slv hn2, slv hn3, slv hn4]
  have HW := Lib.hid hW
  have HB0 := Lib.hid b0
  have HQ := Lib.hid hq
  have HLW := Lib.hid hLW
  clear hn1 hn2 hn3 hn4 hLW hW b0 hq hz
  obtain ⟨gl, hgl⟩ : ∃ g, g = w.heap.size := ⟨_, rfl⟩
  have HGL := Lib.hid hgl
  rw [← hgl] at HQ
  clear hgl
  go_enter Try.func5, Try.ntmps5
  go_wp2_with fail
  rw [← HW.out, ← HGL.out]
  refine (KC.out _ (Below.refl _ _)).mono ?_
  rintro e w1 ⟨rfl, hb⟩
  have HB1 := Lib.hid hb
  clear hb
  obtain ⟨l0, l1, l2, l3⟩ := lay_own (blk_keep HB1.out HQ.out)
  go_wp2_with fail
  clear l0 l1 l2 l3
  refine (KW.out _ HB1.out).mono ?_
  rintro e w2 ⟨rfl, hb⟩
  have HB2 := Lib.hid hb
  clear hb HB1
  have HQ2 := Lib.hid (blk_keep HB2.out HQ.out)
  obtain ⟨l0, l1, l2, l3⟩ := lay_own HQ2.out
  by_cases hz : 1000 < z
  · clear KP
    go_wp2_with fail
    refine (KWO.out _ HB2.out).mono ?_
    rintro e w3 ⟨rfl, hb⟩
    have HB3 := Lib.hid (below_on HB0.out hb)
    clear hb
    go_wp2_with fail
    go_ret
    exact ⟨rfl, HB3.out⟩
  by_cases hc0 : ¬ c = 0
  · clear KP
    go_wp2_with fail
    refine (KWO.out _ HB2.out).mono ?_
    rintro e w3 ⟨rfl, hb⟩
    have HB3 := Lib.hid (below_on HB0.out hb)
    clear hb
    go_wp2_with fail
    go_ret
    exact ⟨rfl, HB3.out⟩
  obtain rfl : c = 0 := by omega
  by_cases ha0 : a < 0
  · clear KP
    go_wp2_with fail
    refine (KWO.out _ HB2.out).mono ?_
    rintro e w3 ⟨rfl, hb⟩
    have HB3 := Lib.hid (below_on HB0.out hb)
    clear hb
    go_wp2_with fail
    go_ret
    exact ⟨rfl, HB3.out⟩
  by_cases hb0 : b < 0
  · clear KP
    go_wp2_with fail
    refine (KWO.out _ HB2.out).mono ?_
    rintro e w3 ⟨rfl, hb⟩
    have HB3 := Lib.hid (below_on HB0.out hb)
    clear hb
    go_wp2_with fail
    go_ret
    exact ⟨rfl, HB3.out⟩
  obtain ⟨i, rfl⟩ : ∃ i : Nat, a = i := ⟨a.toNat, by omega⟩
  obtain ⟨k, rfl⟩ : ∃ k : Nat, b = k := ⟨b.toNat, by omega⟩
  have d1 : (0 : Int) ≤ i := by omega
  have d3 : (0 : Int) ≤ k := by omega
  by_cases hi0 : (n4 : Int) ≤ i
  · clear KP
    go_wp2_with fail
    refine (KWO.out _ HB2.out).mono ?_
    rintro e w3 ⟨rfl, hb⟩
    have HB3 := Lib.hid (below_on HB0.out hb)
    clear hb
    go_wp2_with fail
    go_ret
    exact ⟨rfl, HB3.out⟩
  by_cases hk0 : (n4 : Int) ≤ k
  · clear KP
    go_wp2_with fail
    refine (KWO.out _ HB2.out).mono ?_
    rintro e w3 ⟨rfl, hb⟩
    have HB3 := Lib.hid (below_on HB0.out hb)
    clear hb
    go_wp2_with fail
    go_ret
    exact ⟨rfl, HB3.out⟩
  by_cases hik : i = k
  · have hbe : ((i : Int) == (k : Int)) = true := by rw [hik]; simp
    have hbd : (decide ((i : Int) = (k : Int))) = true := by rw [hik]; simp
    have HIK := Lib.hid hik
    clear hik KP
    go_wp2_with fail
    refine (KWO.out _ HB2.out).mono ?_
    rintro e w3 ⟨rfl, hb⟩
    have HB3 := Lib.hid (below_on HB0.out hb)
    clear hb
    go_wp2_with fail
    go_ret
    exact ⟨rfl, HB3.out⟩
  have hbe : ((i : Int) == (k : Int)) = false := by rw [beq_eq_false_iff_ne]; omega
  have hbd : (decide ((i : Int) = (k : Int))) = false := decide_eq_false (by omega)
  have HIK := Lib.hid hik
  clear hik
  go_wp2_with fail
  refine (KP.out _ HB2.out).mono ?_
  rintro e w3 ⟨rfl, hb⟩
  have HB3 := Lib.hid hb
  clear hb HB2 l0 l1 l2 l3
  cases D with
  | true =>
    go_wp2_with fail
    refine (KWO.out _ HB3.out).mono ?_
    rintro e w4 ⟨rfl, hb⟩
    have HB4 := Lib.hid (below_on HB0.out hb)
    clear hb
    go_wp2_with fail
    go_ret
    exact ⟨rfl, HB4.out⟩
  | false =>
    have hli : i < n4 := by omega
    have hlk : k < n4 := by omega
    have d2 : (i : Int) < n4 := by omega
    have d4 : (k : Int) < n4 := by omega
    have HLW3 := Lib.hid (HLW.out.below HB3.out)
    have HM : Hid (mayS L = true) := Lib.hid (cs_zero HC1.out)
    rcases HLW3.out.rt.row with hnil | ⟨xb, off, hxb, hc⟩
    · have := HN4.out; rw [hnil] at this; simp at this; omega
    obtain ⟨x, hyx⟩ : ∃ y, L.rt.l[i]? = some y := ⟨_, List.getElem?_eq_getElem (by rw [HN4.out]; exact hli)⟩
    have z0 := hc i _ hyx 0 _ rfl
    have z1 := hc i _ hyx 1 _ rfl
    have z2 := hc i _ hyx 2 _ rfl
    have z3 := hc i _ hyx 3 _ rfl
    have z4 := hc i _ hyx 4 _ rfl
    have z5 := hc i _ hyx 5 _ rfl
    rw [Nat.add_zero] at z0
    obtain ⟨p1, hp1⟩ : ∃ n, x.pa.l.length = n := ⟨_, rfl⟩
    obtain ⟨p2, hp2⟩ : ∃ n, x.po.l.length = n := ⟨_, rfl⟩
    obtain ⟨p3, hp3⟩ : ∃ n, x.ov.l.length = n := ⟨_, rfl⟩
    obtain ⟨p4, hp4⟩ : ∃ n, x.fl.l.length = n := ⟨_, rfl⟩
    rw [slv hp1] at z2
    rw [slv hp2] at z3
    rw [slv hp3] at z4
    rw [slv hp4] at z5
    have HZA := Lib.hid (And.intro z0 (And.intro z1 (And.intro z2 (And.intro z3 (And.intro z4 z5)))))
    clear z0 z1 z2 z3 z4 z5
    obtain ⟨y, hyy⟩ : ∃ y, L.rt.l[k]? = some y := ⟨_, List.getElem?_eq_getElem (by rw [HN4.out]; exact hlk)⟩
    have y0 := hc k _ hyy 0 _ rfl
    have y1 := hc k _ hyy 1 _ rfl
    have y2 := hc k _ hyy 2 _ rfl
    have y3 := hc k _ hyy 3 _ rfl
    have y4 := hc k _ hyy 4 _ rfl
    have y5 := hc k _ hyy 5 _ rfl
    rw [Nat.add_zero] at y0
    obtain ⟨q1, hq1⟩ : ∃ n, y.pa.l.length = n := ⟨_, rfl⟩
    obtain ⟨q2, hq2⟩ : ∃ n, y.po.l.length = n := ⟨_, rfl⟩
    obtain ⟨q3, hq3⟩ : ∃ n, y.ov.l.length = n := ⟨_, rfl⟩
    obtain ⟨q4, hq4⟩ : ∃ n, y.fl.l.length = n := ⟨_, rfl⟩
    rw [slv hq1] at y2
    rw [slv hq2] at y3
    rw [slv hq3] at y4
    rw [slv hq4] at y5
    have HZB := Lib.hid (And.intro y0 (And.intro y1 (And.intro y2 (And.intro y3 (And.intro y4 y5)))))
    clear y0 y1 y2 y3 y4 y5
    have HCF : Hid (conflictS L x y = false) := Lib.hid (by rw [← HD.out]; exact (ps_at HM.out hyx hyy HIK.out).symm)
    have HX := Lib.hid (List.mem_of_getElem? hyx)
    have HY := Lib.hid (List.mem_of_getElem? hyy)
    have HQ3 := Lib.hid (blk_keep HB3.out HQ.out)
    have HPL := Lib.hid (And.intro hp1 (And.intro hp2 (And.intro hp3 hp4)))
    have HQL := Lib.hid (And.intro hq1 (And.intro hq2 (And.intro hq3 hq4)))
    obtain ⟨X, hX⟩ : ∃ x, L.rt.a = x := ⟨_, rfl⟩
    rw [hX] at HQ3 hxb ⊢
    subst hxb
    clear hc hyx hyy hX hp1 hp2 hp3 hp4 hq1 hq2 hq3 hq4
    go_upto_region 4 with fail
    rename (_ ∧ ¬ n4 ≤ k) => hgg
    clear hgg hz hc0 ha0 hb0 hi0 hk0 hbe hbd hL KC KP KW HQ2 HLW HD HZ HQ HN4 hli hlk
    have HS : Hid (∀ w', Below w3.heap.size w3 w' → (w'.cell? ⟨gl, 0, none⟩ = some (.slice L.se.a n1 L.se.c) ∧ w'.cell? ⟨gl, 1, none⟩ = some (.slice L.po.a n2 L.po.c) ∧ w'.cell? ⟨gl, 2, none⟩ = some (.slice L.sg.a n3 L.sg.c) ∧ w'.cell? ⟨gl, 3, none⟩ = some (.slice (some ⟨xb, off, none⟩) n4 L.rt.c)) ∧ (w'.cell? ⟨xb, off + i * 6, none⟩ = some (.string x.nm) ∧ w'.cell? ⟨xb, off + i * 6 + 1, none⟩ = some (.int .i64 x.sg) ∧ w'.cell? ⟨xb, off + i * 6 + 2, none⟩ = some (.slice x.pa.a p1 x.pa.c) ∧ w'.cell? ⟨xb, off + i * 6 + 3, none⟩ = some (.slice x.po.a p2 x.po.c) ∧ w'.cell? ⟨xb, off + i * 6 + 4, none⟩ = some (.slice x.ov.a p3 x.ov.c) ∧ w'.cell? ⟨xb, off + i * 6 + 5, none⟩ = some (.slice x.fl.a p4 x.fl.c)) ∧ (w'.cell? ⟨xb, off + k * 6, none⟩ = some (.string y.nm) ∧ w'.cell? ⟨xb, off + k * 6 + 1, none⟩ = some (.int .i64 y.sg) ∧ w'.cell? ⟨xb, off + k * 6 + 2, none⟩ = some (.slice y.pa.a q1 y.pa.c) ∧ w'.cell? ⟨xb, off + k * 6 + 3, none⟩ = some (.slice y.po.a q2 y.po.c) ∧ w'.cell? ⟨xb, off + k * 6 + 4, none⟩ = some (.slice y.ov.a q3 y.ov.c) ∧ w'.cell? ⟨xb, off + k * 6 + 5, none⟩ = some (.slice y.fl.a q4 y.fl.c))) := Lib.hid (fun w' hw' => ⟨lay_own' (blk_keep hw' HQ3.out), ⟨cell_later hw' HZA.out.1, cell_later hw' HZA.out.2.1, cell_later hw' HZA.out.2.2.1, cell_later hw' HZA.out.2.2.2.1, cell_later hw' HZA.out.2.2.2.2.1, cell_later hw' HZA.out.2.2.2.2.2⟩, ⟨cell_later hw' HZB.out.1, cell_later hw' HZB.out.2.1, cell_later hw' HZB.out.2.2.1, cell_later hw' HZB.out.2.2.2.1, cell_later hw' HZB.out.2.2.2.2.1, cell_later hw' HZB.out.2.2.2.2.2⟩⟩)
    go_cut [9, 10] (fun s9 s10 wx => ∃ g9 g10 : Nat, s9 = .pointer (some ⟨g9, 0, none⟩) ∧ s10 = .pointer (some ⟨g10, 0, none⟩) ∧ TwoBox w3 wx g9 g10 #[.string x.nm, .int .i64 x.sg, .slice x.pa.a p1 x.pa.c, .slice x.po.a p2 x.po.c, .slice x.ov.a p3 x.ov.c, .slice x.fl.a p4 x.fl.c] #[.string y.nm, .int .i64 y.sg, .slice y.pa.a q1 y.pa.c, .slice y.po.a q2 y.po.c, .slice y.ov.a q3 y.ov.c, .slice y.fl.a q4 y.fl.c])
    case first =>
      go_region_held3 (fun w' => (w'.cell? ⟨gl, 0, none⟩ = some (.slice L.se.a n1 L.se.c) ∧ w'.cell? ⟨gl, 1, none⟩ = some (.slice L.po.a n2 L.po.c) ∧ w'.cell? ⟨gl, 2, none⟩ = some (.slice L.sg.a n3 L.sg.c) ∧ w'.cell? ⟨gl, 3, none⟩ = some (.slice (some ⟨xb, off, none⟩) n4 L.rt.c)) ∧ (w'.cell? ⟨xb, off + i * 6, none⟩ = some (.string x.nm) ∧ w'.cell? ⟨xb, off + i * 6 + 1, none⟩ = some (.int .i64 x.sg) ∧ w'.cell? ⟨xb, off + i * 6 + 2, none⟩ = some (.slice x.pa.a p1 x.pa.c) ∧ w'.cell? ⟨xb, off + i * 6 + 3, none⟩ = some (.slice x.po.a p2 x.po.c) ∧ w'.cell? ⟨xb, off + i * 6 + 4, none⟩ = some (.slice x.ov.a p3 x.ov.c) ∧ w'.cell? ⟨xb, off + i * 6 + 5, none⟩ = some (.slice x.fl.a p4 x.fl.c)) ∧ (w'.cell? ⟨xb, off + k * 6, none⟩ = some (.string y.nm) ∧ w'.cell? ⟨xb, off + k * 6 + 1, none⟩ = some (.int .i64 y.sg) ∧ w'.cell? ⟨xb, off + k * 6 + 2, none⟩ = some (.slice y.pa.a q1 y.pa.c) ∧ w'.cell? ⟨xb, off + k * 6 + 3, none⟩ = some (.slice y.po.a q2 y.po.c) ∧ w'.cell? ⟨xb, off + k * 6 + 4, none⟩ = some (.slice y.ov.a q3 y.ov.c) ∧ w'.cell? ⟨xb, off + k * 6 + 5, none⟩ = some (.slice y.fl.a q4 y.fl.c)))
        (exact HS.out _ (by repeat first | exact (Below.refl _ w3) | assumption | (with_reducible refine Below.drew ?_) | (with_reducible refine below_al ?_ _)))
        (fail)
      all_goals go_wp2
      all_goals go_meet
      all_goals first
        | exact ⟨_, _, rfl, rfl, two_up w3 _ _⟩
        | exact ⟨_, _, rfl, rfl, two_down w3 _ _⟩
    case rest =>
    obtain ⟨g9, g10, rfl, rfl, htb⟩ := hcut
    clear d1 d2 d3 d4 HS HZA HZB HQ3
    have hqb := TwoBox.out htb
    have HG9 := Lib.hid hqb.1
    have HG10 := Lib.hid hqb.2.1
    have HBc := Lib.hid hqb.2.2
    clear htb hqb
    have HXA := Lib.hid (HLW3.out.rn x HX.out)
    have HYA := Lib.hid (HLW3.out.rn y HY.out)
    have HOX := Lib.hid (mayS_rt HM.out x HX.out)
    have HOY := Lib.hid (mayS_rt HM.out y HY.out)
    obtain ⟨ma, hma⟩ : ∃ m, p1 + p3 = m := ⟨_, rfl⟩
    obtain ⟨mb, hmb⟩ : ∃ m, q1 + q3 = m := ⟨_, rfl⟩
    have HMA := Lib.hid hma
    have HMB := Lib.hid hmb
    clear hma hmb
    obtain ⟨na, hna⟩ : ∃ m, p2 + p4 = m := ⟨_, rfl⟩
    obtain ⟨nb, hnb⟩ : ∃ m, q2 + q4 = m := ⟨_, rfl⟩
    have HNA := Lib.hid hna
    have HNB := Lib.hid hnb
    clear hna hnb
    have HLA : Hid (ma ≤ 32 ∧ mb ≤ 32 ∧ na ≤ 32 ∧ nb ≤ 32) := Lib.hid (by
      have h1 := HOX.out.pa; have h2 := HOX.out.ov; have h3 := HOX.out.po; have h4 := HOX.out.fl
      have g1 := HOY.out.pa; have g2 := HOY.out.ov; have g3 := HOY.out.po; have g4 := HOY.out.fl
      rw [HPL.out.1] at h1; rw [HPL.out.2.2.1] at h2; rw [HPL.out.2.1] at h3; rw [HPL.out.2.2.2] at h4
      rw [HQL.out.1] at g1; rw [HQL.out.2.2.1] at g2; rw [HQL.out.2.1] at g3; rw [HQL.out.2.2.2] at g4
      have := HMA.out; have := HMB.out; have := HNA.out; have := HNB.out
      omega)
    have HTL : Hid (x.tr.length = ma ∧ y.tr.length = mb ∧ x.nd.length = na ∧ y.nd.length = nb) := Lib.hid (by
      unfold Rt.tr Rt.nd
      rw [List.length_append, List.length_append, List.length_append, List.length_append, HPL.out.1, HPL.out.2.1, HPL.out.2.2.1, HPL.out.2.2.2, HQL.out.1, HQL.out.2.1, HQL.out.2.2.1, HQL.out.2.2.2]
      exact ⟨HMA.out, HMB.out, HNA.out, HNB.out⟩)
    have TX : Hid (∀ V, Below wc.heap.size wc V → Calls Try.prog 15 #[.agg #[.string x.nm, .int .i64 x.sg, .slice x.pa.a p1 x.pa.c, .slice x.po.a p2 x.po.c, .slice x.ov.a p3 x.ov.c, .slice x.fl.a p4 x.fl.c]] V fun e w' => ∃ a n c, e = .returned (.slice a n c) ∧ n = ma ∧ SlAt 1 intC w' ⟨a, c, x.tr⟩ ∧ Below V.heap.size V w') := Lib.hid (fun V hV => by
      have h := rtrack_is x V (HXA.out.below (below_on HBc.out hV)) (by have := HMA.out; have := HLA.out; have := HPL.out; omega)
      rw [slv HPL.out.1, slv HPL.out.2.1, slv HPL.out.2.2.1, slv HPL.out.2.2.2, HPL.out.1, HPL.out.2.2.1, HMA.out] at h
      unfold Rt.tr
      exact h)
    have TY : Hid (∀ V, Below wc.heap.size wc V → Calls Try.prog 15 #[.agg #[.string y.nm, .int .i64 y.sg, .slice y.pa.a q1 y.pa.c, .slice y.po.a q2 y.po.c, .slice y.ov.a q3 y.ov.c, .slice y.fl.a q4 y.fl.c]] V fun e w' => ∃ a n c, e = .returned (.slice a n c) ∧ n = mb ∧ SlAt 1 intC w' ⟨a, c, y.tr⟩ ∧ Below V.heap.size V w') := Lib.hid (fun V hV => by
      have h := rtrack_is y V (HYA.out.below (below_on HBc.out hV)) (by have := HMB.out; have := HLA.out; have := HQL.out; omega)
      rw [slv HQL.out.1, slv HQL.out.2.1, slv HQL.out.2.2.1, slv HQL.out.2.2.2, HQL.out.1, HQL.out.2.2.1, HMB.out] at h
      unfold Rt.tr
      exact h)
    have NX : Hid (∀ V, Below wc.heap.size wc V → Calls Try.prog 16 #[.agg #[.string x.nm, .int .i64 x.sg, .slice x.pa.a p1 x.pa.c, .slice x.po.a p2 x.po.c, .slice x.ov.a p3 x.ov.c, .slice x.fl.a p4 x.fl.c]] V fun e w' => ∃ a n c, e = .returned (.slice a n c) ∧ n = na ∧ SlAt 2 ndC w' ⟨a, c, x.nd⟩ ∧ Below V.heap.size V w') := Lib.hid (fun V hV => by
      have h := rneeds_is x V (HXA.out.below (below_on HBc.out hV)) (by have := HNA.out; have := HLA.out; have := HPL.out; omega)
      rw [slv HPL.out.1, slv HPL.out.2.1, slv HPL.out.2.2.1, slv HPL.out.2.2.2, HPL.out.2.1, HPL.out.2.2.2, HNA.out] at h
      unfold Rt.nd
      exact h)
    have NY : Hid (∀ V, Below wc.heap.size wc V → Calls Try.prog 16 #[.agg #[.string y.nm, .int .i64 y.sg, .slice y.pa.a q1 y.pa.c, .slice y.po.a q2 y.po.c, .slice y.ov.a q3 y.ov.c, .slice y.fl.a q4 y.fl.c]] V fun e w' => ∃ a n c, e = .returned (.slice a n c) ∧ n = nb ∧ SlAt 2 ndC w' ⟨a, c, y.nd⟩ ∧ Below V.heap.size V w') := Lib.hid (fun V hV => by
      have h := rneeds_is y V (HYA.out.below (below_on HBc.out hV)) (by have := HNB.out; have := HLA.out; have := HQL.out; omega)
      rw [slv HQL.out.1, slv HQL.out.2.1, slv HQL.out.2.2.1, slv HQL.out.2.2.2, HQL.out.2.1, HQL.out.2.2.2, HNB.out] at h
      unfold Rt.nd
      exact h)
    have HS5 : Hid (∀ w', Below wc.heap.size wc w' → (w'.cell? ⟨g9, 0, none⟩ = some (.string x.nm) ∧ w'.cell? ⟨g9, 1, none⟩ = some (.int .i64 x.sg) ∧ w'.cell? ⟨g9, 2, none⟩ = some (.slice x.pa.a p1 x.pa.c) ∧ w'.cell? ⟨g9, 3, none⟩ = some (.slice x.po.a p2 x.po.c) ∧ w'.cell? ⟨g9, 4, none⟩ = some (.slice x.ov.a p3 x.ov.c) ∧ w'.cell? ⟨g9, 5, none⟩ = some (.slice x.fl.a p4 x.fl.c)) ∧ (w'.cell? ⟨g10, 0, none⟩ = some (.string y.nm) ∧ w'.cell? ⟨g10, 1, none⟩ = some (.int .i64 y.sg) ∧ w'.cell? ⟨g10, 2, none⟩ = some (.slice y.pa.a q1 y.pa.c) ∧ w'.cell? ⟨g10, 3, none⟩ = some (.slice y.po.a q2 y.po.c) ∧ w'.cell? ⟨g10, 4, none⟩ = some (.slice y.ov.a q3 y.ov.c) ∧ w'.cell? ⟨g10, 5, none⟩ = some (.slice y.fl.a q4 y.fl.c))) := Lib.hid (fun w' hw' => ⟨box6 (blk_keep hw' HG9.out), box6 (blk_keep hw' HG10.out)⟩)
    go_upto_region 5 with fail
    go_region_held3 (fun w' => (w'.cell? ⟨g9, 0, none⟩ = some (.string x.nm) ∧ w'.cell? ⟨g9, 1, none⟩ = some (.int .i64 x.sg) ∧ w'.cell? ⟨g9, 2, none⟩ = some (.slice x.pa.a p1 x.pa.c) ∧ w'.cell? ⟨g9, 3, none⟩ = some (.slice x.po.a p2 x.po.c) ∧ w'.cell? ⟨g9, 4, none⟩ = some (.slice x.ov.a p3 x.ov.c) ∧ w'.cell? ⟨g9, 5, none⟩ = some (.slice x.fl.a p4 x.fl.c)) ∧ (w'.cell? ⟨g10, 0, none⟩ = some (.string y.nm) ∧ w'.cell? ⟨g10, 1, none⟩ = some (.int .i64 y.sg) ∧ w'.cell? ⟨g10, 2, none⟩ = some (.slice y.pa.a q1 y.pa.c) ∧ w'.cell? ⟨g10, 3, none⟩ = some (.slice y.po.a q2 y.po.c) ∧ w'.cell? ⟨g10, 4, none⟩ = some (.slice y.ov.a q3 y.ov.c) ∧ w'.cell? ⟨g10, 5, none⟩ = some (.slice y.fl.a q4 y.fl.c)))
      (exact HS5.out _ (by first | exact (Below.refl _ wc) | exact (Below.refl _ wc).drew | assumption))
      (first
        | ((with_reducible refine (TX.out _ (by first | exact (Below.refl _ wc) | exact (Below.refl _ wc).drew | assumption)).mono ?_); rintro e v1 ⟨a1, m1, c1, rfl, hn1', h1', hv1⟩; have hb1 : Below wc.heap.size wc v1 := below_on (by first | exact (Below.refl _ wc) | exact (Below.refl _ wc).drew | assumption) hv1)
        | ((with_reducible refine (TY.out _ (by first | exact hb1 | exact hb1.drew | assumption)).mono ?_); rintro e v2 ⟨a2, m2, c2, rfl, hn2', h2', hv2⟩; have hb2 : Below wc.heap.size wc v2 := below_on (by first | exact hb1 | exact hb1.drew | assumption) hv2))
    obtain rfl : ma = m1 := hn1'.symm
    obtain rfl : mb = m2 := hn2'.symm
    have HT := Lib.hid (h1'.below (show Below v1.heap.size v1 v2 by first | exact hv2 | exact below_undrew hv2))
    have HU := Lib.hid h2'
    have HB5 := Lib.hid hb2
    clear hn1' hn2' h1' h2' hv1 hb1 hv2 hb2 TX TY HS5
    obtain ⟨w5, hw5⟩ : ∃ W, W = v2 := ⟨_, rfl⟩
    rw [← hw5] at HT HU HB5 ⊢
    clear hw5
    go_upto_region 7 with fail
    go_loopg [13, 14] ma (fun g j _ wr => ∃ k : Nat, k + g = ma ∧ j = .int .i64 (k : Int) ∧ Below w5.heap.size w5 wr)
    case atStart => exact ⟨0, by omega, rfl, Below.refl _ _⟩
    case round =>
      obtain ⟨e, he, rfl, hbw⟩ := hrel
      have HBo := Lib.hid hbw
      have HE := Lib.hid he
      clear hbw he
      by_cases hle : e < ma
      · have f1 : (0 : Int) ≤ e := by omega
        have f2 : (e : Int) < ma := by omega
        have e1 := wsucc (n := 64) (k := e) (by have := HLA.out; omega) (Nat.le_refl _)
        obtain ⟨s, hs⟩ : ∃ s, x.tr[e]? = some s := ⟨_, List.getElem?_eq_getElem (by rw [HTL.out.1]; exact hle)⟩
        have HSS := Lib.hid hs
        rcases HT.out.row with hnil | ⟨tb, tO, hta, hc⟩
        · have : x.tr = [] := hnil
          rw [this] at hs; simp at hs
        have hta2 : a1 = some ⟨tb, tO, none⟩ := hta
        have c0 := hc e _ hs 0 _ rfl
        rw [Nat.mul_one, Nat.add_zero] at c0
        have HC0 := Lib.hid c0
        obtain ⟨X1, hX1⟩ : ∃ X, a1 = X := ⟨_, rfl⟩
        have HX1 := Lib.hid hX1
        have HLE := Lib.hid hle
        rw [hX1] at hta2 ⊢
        subst hta2
        clear hc hta c0 hX1 hs hle
        obtain ⟨wq, rfl⟩ : ∃ wq, wq = wr := ⟨_, rfl⟩
        go_upto_region 10 with fail
        go_loopg [14] mb (fun g j wr => ∃ k : Nat, k + g = mb ∧ j = .int .i64 (k : Int) ∧ Below w5.heap.size w5 wr)
        case atStart => exact ⟨0, by omega, rfl, HBo.out⟩
        case round =>
          obtain ⟨f, hf, rfl, hbw⟩ := hrel
          have HB6 := Lib.hid hbw
          have HF := Lib.hid hf
          clear hbw hf
          by_cases hlf : f < mb
          · have g1 : (0 : Int) ≤ f := by omega
            have g2 : (f : Int) < mb := by omega
            have e2 := wsucc (n := 64) (k := f) (by have := HLA.out; omega) (Nat.le_refl _)
            obtain ⟨u, hu⟩ : ∃ s, y.tr[f]? = some s := ⟨_, List.getElem?_eq_getElem (by rw [HTL.out.2.1]; exact hlf)⟩
            have hne := apart_tr HCF.out HSS.out hu
            have hbq : (s == u) = false := beq_eq_false_iff_ne.2 hne
            have hdq : decide (s = u) = false := decide_eq_false hne
            rcases HU.out.row with hnil | ⟨ub, uo, hua, hc⟩
            · have : y.tr = [] := hnil
              rw [this] at hu; simp at hu
            have hua2 : a2 = some ⟨ub, uo, none⟩ := hua
            have c2 := cell_later HB6.out (hc f _ hu 0 _ rfl)
            rw [Nat.mul_one, Nat.add_zero] at c2
            have c1 := cell_later HB6.out HC0.out
            obtain ⟨X2, hX2⟩ : ∃ X, a2 = X := ⟨_, rfl⟩
            have HX2 := Lib.hid hX2
            have HLF := Lib.hid hlf
            have HNE := Lib.hid hne
            rw [hX2] at hua2 ⊢
            subst hua2
            clear hc hua hX2 hu hlf hne
            go_wp2_with fail
            go_quiet (fail)
            have HB7 := Lib.hid (below_drewN HB6.out nq)
            go_wp2_with fail
            rw [← HX2.out]
            go_roundg (mb - (f + 1))
            case rel => exact ⟨f + 1, lp_next HF.out HLF.out, by go_num, HB7.out⟩
            case measure => exact lp_less HF.out HLF.out
          · have hnf : ¬ f < mb := hlf
            have HFF := Lib.hid (show mb = f by have := HF.out; omega)
            clear hlf
            go_wp2_with fail
            rw [← HX1.out]
            go_roundg (ma - (e + 1))
            case rel => exact ⟨e + 1, lp_next HE.out HLE.out, by go_num, HB6.out⟩
            case measure => exact lp_less HE.out HLE.out
      · have hne : ¬ e < ma := hle
        have HEE := Lib.hid (show ma = e by have := HE.out; omega)
        clear hle
        have hbq := below_on HB5.out HBo.out
        have HG9' := Lib.hid (blk_keep hbq HG9.out)
        have HG10' := Lib.hid (blk_keep hbq HG10.out)
        have HB6 := Lib.hid hbq
        have HS5 : Hid (∀ w', Below wr.heap.size wr w' → (w'.cell? ⟨g9, 0, none⟩ = some (.string x.nm) ∧ w'.cell? ⟨g9, 1, none⟩ = some (.int .i64 x.sg) ∧ w'.cell? ⟨g9, 2, none⟩ = some (.slice x.pa.a p1 x.pa.c) ∧ w'.cell? ⟨g9, 3, none⟩ = some (.slice x.po.a p2 x.po.c) ∧ w'.cell? ⟨g9, 4, none⟩ = some (.slice x.ov.a p3 x.ov.c) ∧ w'.cell? ⟨g9, 5, none⟩ = some (.slice x.fl.a p4 x.fl.c)) ∧ (w'.cell? ⟨g10, 0, none⟩ = some (.string y.nm) ∧ w'.cell? ⟨g10, 1, none⟩ = some (.int .i64 y.sg) ∧ w'.cell? ⟨g10, 2, none⟩ = some (.slice y.pa.a q1 y.pa.c) ∧ w'.cell? ⟨g10, 3, none⟩ = some (.slice y.po.a q2 y.po.c) ∧ w'.cell? ⟨g10, 4, none⟩ = some (.slice y.ov.a q3 y.ov.c) ∧ w'.cell? ⟨g10, 5, none⟩ = some (.slice y.fl.a q4 y.fl.c))) := Lib.hid (fun w' hw' => ⟨box6 (blk_keep hw' HG9'.out), box6 (blk_keep hw' HG10'.out)⟩)
        clear hbq
        go_upto_region 14 with fail
        go_region_held3 (fun w' => (w'.cell? ⟨g9, 0, none⟩ = some (.string x.nm) ∧ w'.cell? ⟨g9, 1, none⟩ = some (.int .i64 x.sg) ∧ w'.cell? ⟨g9, 2, none⟩ = some (.slice x.pa.a p1 x.pa.c) ∧ w'.cell? ⟨g9, 3, none⟩ = some (.slice x.po.a p2 x.po.c) ∧ w'.cell? ⟨g9, 4, none⟩ = some (.slice x.ov.a p3 x.ov.c) ∧ w'.cell? ⟨g9, 5, none⟩ = some (.slice x.fl.a p4 x.fl.c)) ∧ (w'.cell? ⟨g10, 0, none⟩ = some (.string y.nm) ∧ w'.cell? ⟨g10, 1, none⟩ = some (.int .i64 y.sg) ∧ w'.cell? ⟨g10, 2, none⟩ = some (.slice y.pa.a q1 y.pa.c) ∧ w'.cell? ⟨g10, 3, none⟩ = some (.slice y.po.a q2 y.po.c) ∧ w'.cell? ⟨g10, 4, none⟩ = some (.slice y.ov.a q3 y.ov.c) ∧ w'.cell? ⟨g10, 5, none⟩ = some (.slice y.fl.a q4 y.fl.c)))
          (exact HS5.out _ (by first | exact (Below.refl _ wr) | exact (Below.refl _ wr).drew | assumption))
          (first
            | ((with_reducible refine (NX.out _ (below_on HB6.out (by first | exact (Below.refl _ wr) | exact (Below.refl _ wr).drew | assumption))).mono ?_); rintro e v1 ⟨a1, m1, c1, rfl, hn1', h1', hv1⟩; have hb1 : Below wr.heap.size wr v1 := below_on (by first | exact (Below.refl _ wr) | exact (Below.refl _ wr).drew | assumption) hv1)
            | ((with_reducible refine (NY.out _ (below_on HB6.out (by first | exact hb1 | exact hb1.drew | assumption))).mono ?_); rintro e v2 ⟨a2, m2, c2, rfl, hn2', h2', hv2⟩; have hb2 : Below wr.heap.size wr v2 := below_on (by first | exact hb1 | exact hb1.drew | assumption) hv2))
        obtain rfl : na = m1 := hn1'.symm
        obtain rfl : nb = m2 := hn2'.symm
        have HT2 := Lib.hid (h1'.below (show Below v1.heap.size v1 v2 by first | exact hv2 | exact below_undrew hv2))
        have HU2 := Lib.hid h2'
        have HB8 := Lib.hid (below_on HB6.out hb2)
        clear hn1' hn2' h1' h2' hv1 hb1 hv2 hb2 NX NY HS5 HT HU HBo HB5 HG9' HG10' HB6
        obtain ⟨w8, hw8⟩ : ∃ W, W = v2 := ⟨_, rfl⟩
        rw [← hw8] at HT2 HU2 HB8 ⊢
        clear hw8
        have HFX : Hid (formedS L x = true) := Lib.hid (ok_formed HC1.out HX.out)
        have HFY : Hid (formedS L y = true) := Lib.hid (ok_formed HC1.out HY.out)
        go_upto_region 16 with fail
        go_loopg [17, 18] na (fun g j _ wr => ∃ k : Nat, k + g = na ∧ j = .int .i64 (k : Int) ∧ Below w8.heap.size w8 wr)
        case atStart => exact ⟨0, by omega, rfl, Below.refl _ _⟩
        case round =>
          obtain ⟨e2, he2, rfl, hbw⟩ := hrel
          have HBo := Lib.hid hbw
          have HE2 := Lib.hid he2
          clear hbw he2
          by_cases hle : e2 < na
          · have f1 : (0 : Int) ≤ e2 := by omega
            have f2 : (e2 : Int) < na := by omega
            have e1 := wsucc (n := 64) (k := e2) (by have := HLA.out; omega) (Nat.le_refl _)
            obtain ⟨⟨s, sv⟩, hs⟩ : ∃ s, x.nd[e2]? = some s := ⟨_, List.getElem?_eq_getElem (by rw [HTL.out.2.2.1]; exact hle)⟩
            have HSS := Lib.hid hs
            rcases HT2.out.row with hnil | ⟨tb, tO, hta, hc⟩
            · have : x.nd = [] := hnil
              rw [this] at hs; simp at hs
            have hta2 : a1 = some ⟨tb, tO, none⟩ := hta
            have c0 := hc e2 _ hs 0 _ rfl
            have c00 := hc e2 _ hs 1 _ rfl
            rw [Nat.add_zero] at c0
            have HC0 := Lib.hid (And.intro c0 c00)
            dsimp only at HC0
            obtain ⟨X1, hX1⟩ : ∃ X, a1 = X := ⟨_, rfl⟩
            have HX1 := Lib.hid hX1
            have HLE := Lib.hid hle
            rw [hX1] at hta2 ⊢
            subst hta2
            clear hc hta c0 c00 hX1 hs hle
            obtain ⟨wq, rfl⟩ : ∃ wq, wq = wr := ⟨_, rfl⟩
            go_upto_region 19 with fail
            go_loopg [18] nb (fun g j wr => ∃ k : Nat, k + g = nb ∧ j = .int .i64 (k : Int) ∧ Below w8.heap.size w8 wr)
            case atStart => exact ⟨0, by omega, rfl, HBo.out⟩
            case round =>
              obtain ⟨f, hf, rfl, hbw⟩ := hrel
              have HB6 := Lib.hid hbw
              have HF := Lib.hid hf
              clear hbw hf
              by_cases hlf : f < nb
              · have g1 : (0 : Int) ≤ f := by omega
                have g2 : (f : Int) < nb := by omega
                have e3 := wsucc (n := 64) (k := f) (by have := HLA.out; omega) (Nat.le_refl _)
                obtain ⟨⟨u, uv⟩, hu⟩ : ∃ s, y.nd[f]? = some s := ⟨_, List.getElem?_eq_getElem (by rw [HTL.out.2.2.2]; exact hlf)⟩
                have HUU := Lib.hid hu
                rcases HU2.out.row with hnil | ⟨ub, uo, hua, hc⟩
                · have : y.nd = [] := hnil
                  rw [this] at hu; simp at hu
                have hua2 : a2 = some ⟨ub, uo, none⟩ := hua
                have c2 := hc f _ hu 0 _ rfl
                have c22 := hc f _ hu 1 _ rfl
                rw [Nat.add_zero] at c2
                have HC2 := Lib.hid (And.intro c2 c22)
                dsimp only at HC2
                have HC1' := Lib.hid (And.intro (cell_later HB6.out HC0.out.1) (cell_later HB6.out HC0.out.2))
                have HC2' := Lib.hid (And.intro (cell_later HB6.out HC2.out.1) (cell_later HB6.out HC2.out.2))
                obtain ⟨X2, hX2⟩ : ∃ X, a2 = X := ⟨_, rfl⟩
                have HX2 := Lib.hid hX2
                have HLF := Lib.hid hlf
                rw [hX2] at hua2 ⊢
                subst hua2
                clear hc hua hX2 hu hlf c2 c22 HC2
                by_cases hpp : s = u
                · subst hpp
                  obtain rfl : sv = uv := apart_nd HCF.out HFX.out HFY.out HOX.out HSS.out HUU.out
                  have hvv : (sv != sv) = false := by cases sv <;> rfl
                  go_upto_region 21 with fail
                  refine wp_region_calm (by kernel_rfl) ?_ ?_
                  · kernel_rfl
                  repeat first
                   | go_big_quiet_skip
                   | (go_big_quiet_want; go_big_quiet_op; go_big_quiet_on)
                   | (with_reducible apply wpQuiet_step
                      intro K hK
                      go_simp
                      first
                        | (refine hK _ ?_; clear hK K)
                        | (apply Exists.intro
                           refine ⟨fun w' hw' => ?_, hK _ ?_⟩
                           ·
                             (first
                              | (have k1 := cell_later hw' HC1'.out.1
                                 have k2 := cell_later hw' HC1'.out.2
                                 go_simp
                                 first | done | with_reducible exact rfl | with_reducible exact ⟨rfl, rfl⟩)
                              | (have k1 := cell_later hw' HC2'.out.1
                                 have k2 := cell_later hw' HC2'.out.2
                                 go_simp
                                 first | done | with_reducible exact rfl | with_reducible exact ⟨rfl, rfl⟩))
                           clear hK K))
                  refine wpQuiet_nil ?_
                  intro w7 hw7
                  have HB7 := Lib.hid (below_on HB6.out hw7)
                  clear hw7
                  go_wp2_with fail
                  rw [← HX2.out]
                  go_roundg (nb - (f + 1))
                  case rel => exact ⟨f + 1, lp_next HF.out HLF.out, by go_num, HB7.out⟩
                  case measure => exact lp_less HF.out HLF.out
                · have hbq : (s == u) = false := beq_eq_false_iff_ne.2 hpp
                  have hdq : decide (s = u) = false := decide_eq_false hpp
                  have HPP := Lib.hid hpp
                  clear hpp
                  go_upto_region 21 with fail
                  refine wp_region_calm (by kernel_rfl) ?_ ?_
                  · kernel_rfl
                  repeat first
                   | go_big_quiet_skip
                   | (go_big_quiet_want; go_big_quiet_op; go_big_quiet_on)
                   | (with_reducible apply wpQuiet_step
                      intro K hK
                      go_simp
                      first
                        | (refine hK _ ?_; clear hK K)
                        | (apply Exists.intro
                           refine ⟨fun w' hw' => ?_, hK _ ?_⟩
                           ·
                             (first
                              | (have k1 := cell_later hw' HC1'.out.1
                                 have k2 := cell_later hw' HC1'.out.2
                                 go_simp
                                 first | done | with_reducible exact rfl | with_reducible exact ⟨rfl, rfl⟩)
                              | (have k1 := cell_later hw' HC2'.out.1
                                 have k2 := cell_later hw' HC2'.out.2
                                 go_simp
                                 first | done | with_reducible exact rfl | with_reducible exact ⟨rfl, rfl⟩))
                           clear hK K))
                  refine wpQuiet_nil ?_
                  intro w7 hw7
                  have HB7 := Lib.hid (below_on HB6.out hw7)
                  clear hw7
                  go_wp2_with fail
                  rw [← HX2.out]
                  go_roundg (nb - (f + 1))
                  case rel => exact ⟨f + 1, lp_next HF.out HLF.out, by go_num, HB7.out⟩
                  case measure => exact lp_less HF.out HLF.out
              · have hnf : ¬ f < nb := hlf
                have HFF := Lib.hid (show nb = f by have := HF.out; omega)
                clear hlf
                go_wp2_with fail
                rw [← HX1.out]
                go_roundg (na - (e2 + 1))
                case rel => exact ⟨e2 + 1, lp_next HE2.out HLE.out, by go_num, HB6.out⟩
                case measure => exact lp_less HE2.out HLE.out
          · have hne : ¬ e2 < na := hle
            have HEE2 := Lib.hid (show na = e2 by have := HE2.out; omega)
            clear hle
            have hbq := below_on HB8.out HBo.out
            have s9 := blk_cell (blk_keep hbq HG9.out) 1 _ rfl
            have s10 := blk_cell (blk_keep hbq HG10.out) 1 _ rfl
            have hsg := (apart_parts HCF.out).1
            have hbn : (x.sg != y.sg) = true := bne_iff_ne.2 hsg
            have HB9 := Lib.hid (below_on HB3.out (below_on HBc.out hbq))
            clear hbq hsg
            go_wp2_with fail
            refine (KWO.out _ HB9.out).mono ?_
            rintro e9 w9 ⟨rfl, hb⟩
            have HBF := Lib.hid (below_on HB0.out hb)
            clear hb
            go_wp2_with fail
            go_ret
            exact ⟨rfl, HBF.out⟩
theorem walk_ConflictApart (v0 : Array Value) (a1 : Int) (a2 : Int) (w : World) (_s0 : v0.size = Try.prog.cellsOf 27) (w0 : Rd Try.prog w 27 v0.toList) (_w1 : (Lit.int .i64 a1).wf = true) (_w2 : (Lit.int .i64 a2).wf = true) :
    Calls Try.prog 5 #[.agg v0, .int .i64 a1, .int .i64 a2] w fun e w' => e = .returned (.bool true) ∧ Below w.heap.size w w' := by
  obtain ⟨L, hv, hL⟩ := lay_of w0
  obtain rfl : v0 = #[L.se.v, L.po.v, L.sg.v, L.rt.v] := by apply Array.toList_inj.1; rw [hv]
  exact conflictApart_is L a1 a2 w hL
end Go.Proofs.Ythlnnlemnbpndaa
