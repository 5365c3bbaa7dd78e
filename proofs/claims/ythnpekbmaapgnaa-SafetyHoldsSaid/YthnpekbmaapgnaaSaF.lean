/-
 Layer 29: safety.Cycle, the walk.
-/
import Derived.Test.YthnpekbmaapgnaaSaE
import Derived.Laws.EntriesVeiled
namespace Go.Proofs.Ythnpekbmaapgnaa
open Go.RowKit
set_option maxRecDepth 100000
theorem outS_no {L : Lay} {p q n4 n2 : Nat} (h4 : L.rt.l.length = n4) (h2 : L.po.l.length = n2) (hp : p / pw n4 = 0) (hq : q / pw n2 = 0) : outSA L p q = false := by unfold outSA; rw [h4, h2, hp, hq]; rfl
theorem outS_p {L : Lay} {p q n4 : Nat} (h4 : L.rt.l.length = n4) (hp : ¬ p / pw n4 = 0) : outSA L p q = true := by unfold outSA; rw [h4, decide_eq_false hp]; rfl
theorem outS_q {L : Lay} {p q n2 : Nat} (h2 : L.po.l.length = n2) (hq : ¬ q / pw n2 = 0) : outSA L p q = true := by unfold outSA; rw [h2, decide_eq_false hq]; simp
theorem high64 {p : Nat} (hp : p < 18446744073709551616) : p / pw 64 = 0 := Nat.div_eq_of_lt hp
theorem cyc_1 {L : Lay} {o n v p q : Nat} (h : (checkS L).1 ≠ 0) : cycS L o n v p q = 1 := by unfold cycS; rw [if_neg h]
theorem cyc_2 {L : Lay} {o n v p q : Nat} (h : (checkS L).1 = 0) (h2 : outSA L p q = true) : cycS L o n v p q = 2 := by unfold cycS; rw [if_pos h, h2]; rfl
theorem cyc_3 {L : Lay} {o n v p q : Nat} (h : (checkS L).1 = 0) (h2 : outSA L p q = false) (h3 : claI L (shI p L.rt.l.length) = true) : cycS L o n v p q = 3 := by unfold cycS; rw [if_pos h, h2, h3]; rfl
theorem cyc_4 {L : Lay} {o n v p q : Nat} (h : (checkS L).1 = 0) (h2 : outSA L p q = false) (h3 : claI L (shI p L.rt.l.length) = false) (h4 : occS o (shR L p L.rt.l.length) = true) : cycS L o n v p q = 4 := by unfold cycS; rw [if_pos h, h2, h3, h4]; rfl
theorem cyc_5 {L : Lay} {o n v p q : Nat} (h : (checkS L).1 = 0) (h2 : outSA L p q = false) (h3 : claI L (shI p L.rt.l.length) = false) (h4 : occS o (shR L p L.rt.l.length) = false) (h5 : lieS n v (shR L p L.rt.l.length) = true) : cycS L o n v p q = 5 := by unfold cycS; rw [if_pos h, h2, h3, h4, h5]; rfl
theorem cyc_6 {L : Lay} {o n v p q : Nat} (h : (checkS L).1 = 0) (h2 : outSA L p q = false) (h3 : claI L (shI p L.rt.l.length) = false) (h4 : occS o (shR L p L.rt.l.length) = false) (h5 : lieS n v (shR L p L.rt.l.length) = false) (h6 : turS q (shR L p L.rt.l.length) = true) : cycS L o n v p q = 6 := by unfold cycS; rw [if_pos h, h2, h3, h4, h5, h6]; rfl
theorem cyc_0 {L : Lay} {o n v p q : Nat} (h : (checkS L).1 = 0) (h2 : outSA L p q = false) (h3 : claI L (shI p L.rt.l.length) = false) (h4 : occS o (shR L p L.rt.l.length) = false) (h5 : lieS n v (shR L p L.rt.l.length) = false) (h6 : turS q (shR L p L.rt.l.length) = false) : cycS L o n v p q = 0 := by unfold cycS; rw [if_pos h, h2, h3, h4, h5, h6]; rfl
theorem shr_form (s n : Nat) : (s : Int) / 2 ^ n = ((s / pw n : Nat) : Int) := shr_pw s n
theorem nz {P : Nat} (h : ¬ P = 0) : ((P : Int) != 0) = true := by rw [bne_iff_ne]; omega
theorem all1 {α : Type} {p : α → Prop} {a : α} (ha : p a) : ∀ t ∈ [a], p t := by
 intro t ht
 rcases List.mem_cons.1 ht with rfl | ht
 ·exact ha
 ·cases ht
theorem all2 {α : Type} {p : α → Prop} {a b : α} (ha : p a) (hb : p b) : ∀ t ∈ [a, b], p t := by
 intro t ht
 rcases List.mem_cons.1 ht with rfl | ht
 ·exact ha
 ·exact all1 hb t ht
theorem waits_none {md : Region.Mode} {ops : Array Oper} {i : Nat} {T : List (Nat × (World → Prop))} (h : (T.map (·.1)).all (fun k => !(waits md ops k i)) = true) : ∀ t ∈ T, ¬ waits md ops t.1 i = true := by
 intro t ht hw
 have := List.all_eq_true.1 h t.1 (List.mem_map.2 ⟨t, ht, rfl⟩)
 rw [hw] at this
 cases this
theorem fm_get {α : Type} {sz : Nat} {f : α → List Value} (hf : ∀ c, (f c).length = sz) : ∀ {l : List α} {i : Nat} {c : α}, l[i]? = some c → ∀ {j : Nat} {v : Value}, (f c)[j]? = some v → (l.flatMap f)[i * sz + j]? = some v
 | [], i, c, h, _, _, _ => by simp at h
 | y :: l, 0, c, h, j, v, hv => by
   simp at h
   subst h
   have hj := (List.getElem?_eq_some_iff.1 hv).1
   rw [List.flatMap_cons, Nat.zero_mul, Nat.zero_add, List.getElem?_append_left hj]
   exact hv
 | y :: l, i + 1, c, h, j, v, hv => by
   have ih := fm_get hf (l := l) (i := i) (by simpa using h) hv
   rw [List.flatMap_cons, List.getElem?_append_right (by rw [hf, Nat.succ_mul]; omega), hf, show (i + 1) * sz + j - sz = i * sz + j by rw [Nat.succ_mul]; omega]
   exact ih
theorem own_rowat {α : Type} {sz B : Nat} {f : α → List Value} (hf : ∀ c, (f c).length = sz) {w : World} {e : TypeId} {v : Value} {l : List α} (h : w.ownsRow B e sz v l.length (l.flatMap f)) : ∃ x c, v = .slice x l.length c ∧ RowAt sz f w x l := by
 rcases h.2 with ⟨h1, h2⟩ | ⟨g, cap, cur, h1, _, h3, _, _, _, h4⟩
 ·exact ⟨none, 0, by rw [h1, h2], .inl (List.length_eq_zero_iff.1 h2)⟩
 ·refine ⟨_, _, h1, .inr ⟨g, 0, rfl, fun i c hi j v hv => ?_⟩⟩
  have k := fm_get hf hi hv
  rw [← h4] at k
  rw [Nat.zero_add]
  refine blk_cell h3 _ _ ?_
  rw [List.getElem?_take] at k
  split at k
  ·rw [← Array.getElem?_toList]; exact k
  ·cases k
theorem tr_ok {L : Lay} {p k : Nat} (h : mayS L = true) : ∀ r ∈ shR L p k, ∀ s ∈ r.tr, 0 ≤ s ∧ s ≤ 63 := by
 intro r hr s hs
 have o := mayS_rt h r (shR_mem r hr)
 have z := mayS_small h
 unfold Rt.tr at hs
 rcases List.mem_append.1 hs with hs | hs
 ·have := belowB_mem o.pb s hs; omega
 ·have := belowB_mem o.ob s hs; omega
theorem nd_ok {L : Lay} {p k : Nat} (h : mayS L = true) : ∀ r ∈ shR L p k, ∀ n ∈ r.nd, 0 ≤ n.1 ∧ n.1 ≤ 63 := by
 intro r hr n hn
 have o := mayS_rt h r (shR_mem r hr)
 have z := mayS_small h
 unfold Rt.nd at hn
 rcases List.mem_append.1 hn with hn | hn
 ·have := belowB_mem o.qb n.1 (List.mem_map.2 ⟨_, hn, rfl⟩); omega
 ·have := belowB_mem o.fb n.1 (List.mem_map.2 ⟨_, hn, rfl⟩); omega
theorem le_tr {L : Lay} {p k : Nat} (h : mayS L = true) : ∀ r ∈ shR L p k, r.pa.l.length + r.ov.l.length ≤ 100000 := fun r hr => by
 have o := mayS_rt h r (shR_mem r hr)
 have := o.pa; have := o.ov; omega
theorem le_nd {L : Lay} {p k : Nat} (h : mayS L = true) : ∀ r ∈ shR L p k, r.po.l.length + r.fl.l.length ≤ 100000 := fun r hr => by
 have o := mayS_rt h r (shR_mem r hr)
 have := o.po; have := o.fl; omega
attribute [local irreducible] ixF Sl.v pairS hasBit mayS Rt.tr Rt.nd checkS pw claI occS lieS turS shI shR withBit outSA cycS

set_option linter.unusedSimpArgs false in
set_option maxHeartbeats 20000000 in
theorem scycle_is (z : Nat) (L : Lay) (ox nx rx p q nN nV : Nat) (ia : Option Addr) (il ic : Nat) (ho : ox < 18446744073709551616) (hp : p < 18446744073709551616) (hq : q < 4294967296) (hN : bits .andNot .u32 (nx : Int) (rx : Int) = (nN : Int)) (hV : bits .andNot .u32 (rx : Int) (nx : Int) = (nV : Int)) (hN2 : nN < 4294967296) (hV2 : nV < 4294967296)
 (hz : cycS L ox nN nV p q = z) (w : World) (hL : LayAt w L) :
 Calls Try.prog 9 #[.agg #[L.se.v, L.po.v, L.sg.v, L.rt.v], .agg #[.int .u64 (ox : Int), .int .u32 (nx : Int), .int .u32 (rx : Int), .slice ia il ic], .agg #[.int .u64 (p : Int), .int .u32 (q : Int)]] w fun e w' => e = .returned (.int .u8 (z : Int)) ∧ Below w.heap.size w w' := by
 obtain ⟨c, hc1⟩ : ∃ c, (checkS L).1 = c := ⟨_, rfl⟩
 obtain ⟨d, hd1⟩ : ∃ c, (checkS L).2 = c := ⟨_, rfl⟩
 have HCK : Hid (∀ W, Below w.heap.size w W → Calls Try.prog 19 #[.agg #[L.se.v, L.po.v, L.sg.v, L.rt.v]] W fun e w' => e = .returned (.tuple #[.int .i64 c, .int .i64 d]) ∧ Below W.heap.size W w') := Lib.hid (fun W hW => hc1 ▸ hd1 ▸ check_is L W (hL.below hW))
 have HSD : Hid (∀ W, Calls Try.prog 21 #[.agg #[.int .u64 (ox : Int), .int .u32 (nx : Int), .int .u32 (rx : Int), .slice ia il ic]] W fun e w' => e = .returned (.tuple #[.int .u32 (nN : Int), .int .u32 (nV : Int)]) ∧ Below W.heap.size W w') := Lib.hid (fun W => by have h := sa_sides ox nx rx ia il ic W; rw [hN, hV] at h; exact h)
 have HLW := Lib.hid hL
 have HC1 := Lib.hid hc1
 have HZ := Lib.hid hz
 have HP := Lib.hid hp
 have HO := Lib.hid ho
 have HQ2 := Lib.hid hq
 have HNV := Lib.hid (And.intro hN2 hV2)
 have cq : IntKind.u64.wrap (q : Int) = (q : Int) := by rw [IntKind.wrap_u64]; omega
 have CQ := Lib.hid cq
 obtain ⟨n1, hn1⟩ : ∃ n, L.se.l.length = n := ⟨_, rfl⟩
 obtain ⟨n2, hn2⟩ : ∃ n, L.po.l.length = n := ⟨_, rfl⟩
 obtain ⟨n3, hn3⟩ : ∃ n, L.sg.l.length = n := ⟨_, rfl⟩
 obtain ⟨n4, hn4⟩ : ∃ n, L.rt.l.length = n := ⟨_, rfl⟩
 have HN4 := Lib.hid hn4
 have HN2 := Lib.hid hn2
 have HVS := Lib.hid (And.intro (slv hn1) (And.intro (slv hn2) (And.intro (slv hn3) (slv hn4))))
 rw [slv hn1, slv hn2, slv hn3, slv hn4] at HCK
 rw [slv hn1, slv hn2, slv hn3, slv hn4]
 clear hn1 hn2 hn3 hn4 hL hc1 hd1 hz hp ho hq hN hV hN2 hV2 cq
 go_enter Try.func9, Try.ntmps9
 go_upto_region 1 with fail
 refine name_last (os := [.cells #[.slice L.se.a n1 L.se.c, .slice L.po.a n2 L.po.c, .slice L.sg.a n3 L.sg.c, .slice L.rt.a n4 L.rt.c] 27, .cells #[.int .u64 (ox : Int), .int .u32 (nx : Int), .int .u32 (rx : Int), .slice ia il ic] 32, .cells #[.int .u64 (p : Int), .int .u32 (q : Int)] 34]) (w0 := w) rfl ?_
 intro W0 hat hbw
 obtain ⟨gl, hgl⟩ : ∃ g, g = w.heap.size := ⟨_, rfl⟩
 obtain ⟨gi, hgi⟩ : ∃ g, g = gl + 1 := ⟨_, rfl⟩
 obtain ⟨go, hgo⟩ : ∃ g, g = gi + 1 := ⟨_, rfl⟩
 have q0 := hat 0 _ rfl
 have q1 := hat 1 _ rfl
 have q2 := hat 2 _ rfl
 rw [Nat.add_zero, ← hgl] at q0
 rw [← hgl, ← hgi] at q1
 rw [show w.heap.size + 2 = go by omega] at q2
 rw [← hgl, ← hgi, ← hgo]
 have HG := Lib.hid (And.intro hgl (And.intro hgi hgo))
 have HL0 := Lib.hid q0
 have HI0 := Lib.hid q1
 have HO0 := Lib.hid q2
 have HB0 := Lib.hid hbw
 obtain ⟨l0, l1, l2, l3⟩ := box4c q0
 clear hat hbw hgl hgi hgo q0 q1 q2
 go_wp2_with fail
 refine (HCK.out _ HB0.out).mono ?_
 rintro e w1 ⟨rfl, hb⟩
 have HB1 := Lib.hid (below_on HB0.out hb)
 have HQL := Lib.hid (blk_keep hb HL0.out)
 have HQI := Lib.hid (blk_keep hb HI0.out)
 have HQO := Lib.hid (blk_keep hb HO0.out)
 clear hb l0 l1 l2 l3 HL0 HI0 HO0 HB0 HCK
 by_cases hc0 : c = 0
 rotate_left
 ·have HT := Lib.hid (HZ.out.symm.trans (cyc_1 (by rw [HC1.out]; exact hc0)))
  go_wp2_with fail
  go_ret
  exact ⟨by rw [HT.out]; rfl, HB1.out⟩
 subst hc0
 have HM : Hid (mayS L = true) := Lib.hid (cs_zero HC1.out)
 have hs4 : n4 ≤ 64 := by have := mayS_small HM.out; have := HN4.out; omega
 have hs2 : n2 ≤ 32 := by have := mayS_small HM.out; have := HN2.out; omega
 have l1 := blk_cell HQL.out 1 _ rfl
 have l3 := blk_cell HQL.out 3 _ rfl
 have o0 := blk_cell HQO.out 0 _ rfl
 have o1 := blk_cell HQO.out 1 _ rfl
 have m4 : min n4 64 = n4 := by omega
 have m2 : min n2 64 = n2 := by omega
 have p4 : (0 : Int) ≤ n4 := by omega
 have p2 : (0 : Int) ≤ n2 := by omega
 have s4 := shr_form p n4
 have s2 := shr_form q n2
 obtain ⟨P1, hP1⟩ : ∃ P, p / pw n4 = P := ⟨_, rfl⟩
 obtain ⟨Q1, hQ1⟩ : ∃ P, q / pw n2 = P := ⟨_, rfl⟩
 rw [hP1] at s4
 rw [hQ1] at s2
 have HP1 := Lib.hid hP1
 have HQ1 := Lib.hid hQ1
 have HS4 := Lib.hid hs4
 have HS2 := Lib.hid hs2
 have cq := CQ.out
 clear hP1 hQ1 hs4 hs2
 by_cases hpz : P1 = 0
 rotate_left
 ·have h64 : (n4 : Int) < 64 := by
   have h1 := HS4.out
   have h2 : n4 ≠ 64 := fun e => hpz (by rw [← HP1.out, e]; exact high64 HP.out)
   omega
  have hnz := nz hpz
  have HT := Lib.hid (HZ.out.symm.trans (cyc_2 HC1.out (outS_p HN4.out (by rw [HP1.out]; exact hpz))))
  clear hpz
  go_wp2_with fail
  go_ret
  exact ⟨by rw [HT.out]; rfl, HB1.out⟩
 subst hpz
 by_cases hqz : Q1 = 0
 rotate_left
 ·have hnz := nz hqz
  have HT := Lib.hid (HZ.out.symm.trans (cyc_2 HC1.out (outS_q HN2.out (by rw [HQ1.out]; exact hqz))))
  clear hqz
  by_cases h64 : (n4 : Int) < 64
  ·go_wp2_with fail
   go_ret
   exact ⟨by rw [HT.out]; rfl, HB1.out⟩
  ·go_wp2_with fail
   go_ret
   exact ⟨by rw [HT.out]; rfl, HB1.out⟩
 subst hqz
 have HOUT : Hid (outSA L p q = false) := Lib.hid (outS_no HN4.out HN2.out HP1.out HQ1.out)
 go_upto_region 4 with fail
 go_cut [30, 31, 32, 33, 34, 35, 36, 47] (fun _s30 _s31 _s32 _s33 _s34 _s35 _s36 s47 wx => s47 = .bool false ∧ wx = w1)
 case first =>
  by_cases h64 : (n4 : Int) < 64
  ·go_wp2_with fail
   go_meet
   exact ⟨rfl, rfl⟩
  ·go_wp2_with fail
   go_meet
   exact ⟨rfl, rfl⟩
 case rest =>
 obtain ⟨rfl, rfl⟩ := hcut
 clear l1 l3 o0 o1 m4 m2 p4 p2 s4 s2 cq
 go_upto_region 8 with fail
 refine name_last (os := [.cells #[.slice none 0 0] 25, .cells #[.slice none 0 0] 51]) (w0 := wc) rfl ?_
 intro W1 hat hbw
 obtain ⟨g9, hg9⟩ : ∃ g, g = wc.heap.size := ⟨_, rfl⟩
 obtain ⟨g10, hg10⟩ : ∃ g, g = g9 + 1 := ⟨_, rfl⟩
 obtain ⟨B, hB⟩ : ∃ g, g = g10 + 1 := ⟨_, rfl⟩
 have q9 := hat 0 _ rfl
 have q10 := hat 1 _ rfl
 rw [Nat.add_zero, ← hg9] at q9
 rw [← hg9, ← hg10] at q10
 rw [← hg9, ← hg10]
 have HGG : Hid (gl < g9 ∧ gi < g9 ∧ go < g9 ∧ g9 < g10 ∧ g10 < B ∧ w.heap.size ≤ gl ∧ w.heap.size ≤ g9 ∧ B = g10 + 1) := Lib.hid (by
  have h1 := blk_lt HQL.out; have h2 := blk_lt HQI.out; have h3 := blk_lt HQO.out; have h4 := HG.out; have h5 := HB1.out.size
  omega)
 have HR0 : Hid (RwS w W1 B gl gi go g9 g10 (.cells #[.slice L.se.a n1 L.se.c, .slice L.po.a n2 L.po.c, .slice L.sg.a n3 L.sg.c, .slice L.rt.a n4 L.rt.c] 27) (.cells #[.int .u64 (ox : Int), .int .u32 (nx : Int), .int .u32 (rx : Int), .slice ia il ic] 32) (.cells #[.int .u64 (p : Int), .int .u32 (q : Int)] 34) (.slice none 0 0) (.slice none 0 0) (shR L p 0) (shI p 0)) := Lib.hid ⟨blk_keep hbw HQL.out, blk_keep hbw HQI.out, blk_keep hbw HQO.out, q9, q10, by rw [shR_zero]; exact World.ownsRow_nil _ _ _ _, by rw [shI_zero]; exact World.ownsRow_nil _ _ _ _, (fun k e => by cases e), below_on HB1.out hbw, by have := blk_lt q10; omega⟩
 clear hat hbw hg9 hg10 hB q9 q10 HQL HQI HQO HB1 HG
 have l3 := blk_cell HR0.out.ql 3 _ rfl
 go_upto_region 9 with fail
 clear l3
 go_loopg [51] n4 (fun g i wr => ∃ (k : Nat) (v9 v10 : Value), k + g = n4 ∧ i = .int .i64 (k : Int) ∧ RwS w wr B gl gi go g9 g10 (.cells #[.slice L.se.a n1 L.se.c, .slice L.po.a n2 L.po.c, .slice L.sg.a n3 L.sg.c, .slice L.rt.a n4 L.rt.c] 27) (.cells #[.int .u64 (ox : Int), .int .u32 (nx : Int), .int .u32 (rx : Int), .slice ia il ic] 32) (.cells #[.int .u64 (p : Int), .int .u32 (q : Int)] 34) v9 v10 (shR L p k) (shI p k))
 case atStart => exact ⟨0, _, _, by omega, rfl, HR0.out⟩
 case round =>
  obtain ⟨k, v9, v10, hk, rfl, hR⟩ := hrel
  clear HR0
  have HR := Lib.hid hR
  have HK := Lib.hid hk
  clear hR hk
  by_cases hlt : k < n4
  ·have d1 : (0 : Int) ≤ k := by omega
   have d2 : (k : Int) < n4 := by omega
   have e1 := wsucc hlt HS4.out
   have HLT := Lib.hid hlt
   rcases HLW.out.rt.row with hnil | ⟨xb, off, hxb, hc0⟩
   ·have := HN4.out; rw [hnil] at this; simp at this; omega
   have hc := fun i c hi j v hv => cell_later HR.out.below (hc0 i c hi j v hv)
   obtain ⟨x, hyx⟩ : ∃ y, L.rt.l[k]? = some y := ⟨_, List.getElem?_eq_getElem (by rw [HN4.out]; exact hlt)⟩
   have z0 := hc k _ hyx 0 _ rfl
   have z1 := hc k _ hyx 1 _ rfl
   have z2 := hc k _ hyx 2 _ rfl
   have z3 := hc k _ hyx 3 _ rfl
   have z4 := hc k _ hyx 4 _ rfl
   have z5 := hc k _ hyx 5 _ rfl
   rw [Nat.add_zero] at z0
   obtain ⟨p1, hp1⟩ : ∃ n, x.pa.l.length = n := ⟨_, rfl⟩
   obtain ⟨p2, hp2⟩ : ∃ n, x.po.l.length = n := ⟨_, rfl⟩
   obtain ⟨p3, hp3⟩ : ∃ n, x.ov.l.length = n := ⟨_, rfl⟩
   obtain ⟨p4, hp4⟩ : ∃ n, x.fl.l.length = n := ⟨_, rfl⟩
   rw [slv hp1] at z2
   rw [slv hp2] at z3
   rw [slv hp3] at z4
   rw [slv hp4] at z5
   have HZA := Lib.hid (And.intro z0 (And.intro z1 (And.intro z2 (And.intro z3 (And.intro z4 z5)))))
   clear z0 z1 z2 z3 z4 z5
   obtain ⟨z0, z1, z2, z3, z4, z5⟩ := HZA.out
   have HYX := Lib.hid hyx
   have HXL : Hid ([.string x.nm, .int .i64 x.sg, .slice x.pa.a p1 x.pa.c, .slice x.po.a p2 x.po.c, .slice x.ov.a p3 x.ov.c, .slice x.fl.a p4 x.fl.c] = rtC x) := Lib.hid (by unfold rtC; rw [slv hp1, slv hp2, slv hp3, slv hp4])
   obtain ⟨X, hX⟩ : ∃ x, L.rt.a = x := ⟨_, rfl⟩
   have HXX := Lib.hid hX
   have hql := HR.out.ql
   rw [hX] at hql hxb ⊢
   subst hxb
   have HQL := Lib.hid hql
   have o0 := blk_cell HR.out.qo 0 _ rfl
   obtain ⟨D, hD⟩ : ∃ D, hasBit p k = D := ⟨_, rfl⟩
   have HD := Lib.hid hD
   have HAS := Lib.hid (fun W => shas_is D p k W (by have := HS4.out; omega) HP.out hD)
   clear hc hc0 hyx hX hql hp1 hp2 hp3 hp4 hlt hD
   go_upto_region 11 with fail
   clear z0 z1 z2 z3 z4 z5 o0
   have hbx := below1 wr (.cells #[.string x.nm, .int .i64 x.sg, .slice x.pa.a p1 x.pa.c, .slice x.po.a p2 x.po.c, .slice x.ov.a p3 x.ov.c, .slice x.fl.a p4 x.fl.c] 54)
   have hqx := alloc1 wr (.cells #[.string x.nm, .int .i64 x.sg, .slice x.pa.a p1 x.pa.c, .slice x.po.a p2 x.po.c, .slice x.ov.a p3 x.ov.c, .slice x.fl.a p4 x.fl.c] 54) (Below.refl _ _)
   obtain ⟨w7, hw7⟩ : ∃ W, W = wr.alloc (.cells #[.string x.nm, .int .i64 x.sg, .slice x.pa.a p1 x.pa.c, .slice x.po.a p2 x.po.c, .slice x.ov.a p3 x.ov.c, .slice x.fl.a p4 x.fl.c] 54) := ⟨_, rfl⟩
   rw [← hw7] at hbx hqx ⊢
   obtain ⟨gx, hgx⟩ : ∃ g, g = wr.heap.size := ⟨_, rfl⟩
   have HNX : Hid (v9.ownBlock ≠ some gx ∧ v10.ownBlock ≠ some gx) := Lib.hid (by rw [hgx]; exact ⟨own_ne_size HR.out.o9, own_ne_size HR.out.o10⟩)
   rw [← hgx] at hqx ⊢
   have HR7 := Lib.hid (HR.out.step hbx)
   have HBX := Lib.hid hqx
   have o0 := blk_cell HR7.out.qo 0 _ rfl
   clear hbx hqx hw7 hgx HQL HZA HR
   go_wp2_with fail
   refine (HAS.out _).mono ?_
   rintro e w' ⟨rfl, rfl⟩
   clear o0
   cases D with
   | false =>
     have HR8 : Hid (RwS w w7 B gl gi go g9 g10 (.cells #[.slice L.se.a n1 L.se.c, .slice L.po.a n2 L.po.c, .slice L.sg.a n3 L.sg.c, .slice L.rt.a n4 L.rt.c] 27) (.cells #[.int .u64 (ox : Int), .int .u32 (nx : Int), .int .u32 (rx : Int), .slice ia il ic] 32) (.cells #[.int .u64 (p : Int), .int .u32 (q : Int)] 34) v9 v10 (shR L p (k + 1)) (shI p (k + 1))) := Lib.hid (by rw [shR_no HD.out, shI_no HD.out]; exact HR7.out)
     go_wp2_with fail
     rw [← HXX.out]
     go_roundg (n4 - (k + 1))
     case rel => exact ⟨k + 1, v9, v10, sa_next HK.out HLT.out, by go_num, HR8.out⟩
     case measure => exact sa_less HK.out HLT.out
   | true =>
     go_upto_region 12 with fail
     have HPK : Hid (∀ V VA VB v9n v10n, Ts w w7 V B gx [.string x.nm, .int .i64 x.sg, .slice x.pa.a p1 x.pa.c, .slice x.po.a p2 x.po.c, .slice x.ov.a p3 x.ov.c, .slice x.fl.a p4 x.fl.c] (k : Int) none none v9n v10n (shR L p k ++ [x]) (shI p k ++ [(k : Int)]) → Only g9 V VA → VA.heap[g9]? = some (.cells #[v9n] 25) → Only g10 VA VB → VB.heap[g10]? = some (.cells #[v10n] 51) → RwS w VB B gl gi go g9 g10 (.cells #[.slice L.se.a n1 L.se.c, .slice L.po.a n2 L.po.c, .slice L.sg.a n3 L.sg.c, .slice L.rt.a n4 L.rt.c] 27) (.cells #[.int .u64 (ox : Int), .int .u32 (nx : Int), .int .u32 (rx : Int), .slice ia il ic] 32) (.cells #[.int .u64 (p : Int), .int .u32 (q : Int)] 34) v9n v10n (shR L p (k + 1)) (shI p (k + 1))) := Lib.hid (fun V VA VB v9n v10n hs oa qa ob qb => by
      rw [shR_yes HD.out HYX.out, shI_yes HD.out]
      obtain ⟨g1, g2, g3, g4, g5, g6, g7, g8⟩ := HGG.out
      exact HR7.out.fin hs oa qa ob qb g1 g2 g3 g4 g5 g6 g7)
     have HS0 : Hid (Ts w w7 w7.drew B gx [.string x.nm, .int .i64 x.sg, .slice x.pa.a p1 x.pa.c, .slice x.po.a p2 x.po.c, .slice x.ov.a p3 x.ov.c, .slice x.fl.a p4 x.fl.c] (k : Int) none none v9 v10 (shR L p k) (shI p k)) := Lib.hid (Ts.drew ⟨fun _ _ _ h => h, HR7.out.below, HBX.out, HR7.out.o9, HR7.out.o10, HR7.out.ne, HNX.out.1, HNX.out.2, fun g e => (by cases e), fun g e => (by cases e), by have := HGG.out; omega, HR7.out.big⟩)
     have HQ9 := Lib.hid HR7.out.q9
     have HQ10 := Lib.hid HR7.out.q10
     have HB9 : Hid (g9 < B) := Lib.hid (by have := HGG.out; omega)
     have HB10 : Hid (g10 < B) := Lib.hid (by have := HGG.out; omega)
     have HNE : Hid (g9 < g10) := Lib.hid (by have := HGG.out; omega)
     have HIL : Hid ((shI p k).length ≤ 64) := Lib.hid (by have := shI_len p k; have := HLT.out; have := HS4.out; omega)
     have HRL : Hid ((shR L p k).length ≤ 64) := Lib.hid (by rw [shR_len (by have := HLT.out; have := HN4.out; omega)]; exact HIL.out)
     have HONE : Hid (∀ u ∈ ([.string x.nm, .int .i64 x.sg, .slice x.pa.a p1 x.pa.c, .slice x.po.a p2 x.po.c, .slice x.ov.a p3 x.ov.c, .slice x.fl.a p4 x.fl.c] : List Value), u.oneCell' = true) := Lib.hid (by rw [HXL.out]; exact rt_one x)
     obtain ⟨iR, hR, hR0, hR1, hR2⟩ := info_parts info_rt9
     obtain ⟨iI, hI, hI0, hI1, hI2⟩ := info_parts info_int
     refine wp_region_any (by kernel_rfl) ?_
     change wpAny _ _ _ _ _ _ _ (World.drew _)
     refine wpAny_take (i := 5) (v := .int .i64 (k : Int)) rfl (by kernel_rfl) (by kernel_rfl) (by kernel_rfl) (fun _ _ _ h => h) (Or.inl ⟨by rfl, fun w => by go_simp⟩) ?_
     refine wpAny_of_V (T := []) _ _ _ _ ?_
     try simp only [Act.put, List.setIfInBounds_toArray, List.set_cons_zero, List.set_cons_succ]
     refine wpAnyV_re 9 #[false, false, false, false, false, true, false, false, false, false] (by kernel_rfl) (by kernel_rfl) ?_
     refine wpAnyV_take (i := 0) (oi := ⟨some 60, _, _, _, _, _⟩) (v := v9) (fun w' => w'.cell? ⟨g9, 0, none⟩ = some v9) rfl (by kernel_rfl) (by kernel_rfl) (by kernel_rfl) (fun _ _ _ h => h) (waits_none (by kernel_rfl)) (by kernel_rfl) (Or.inl ⟨by rfl, fun w hS => by (try dsimp only at hS); go_simp⟩) (blk_cell HQ9.out 0 _ rfl) (by intro t ht; cases ht) ?_
     try simp only [Act.put, List.setIfInBounds_toArray, List.set_cons_zero, List.set_cons_succ]
     refine wpAnyV_re 8 #[true, false, false, false, false, true, false, false, false, false] (by kernel_rfl) (by kernel_rfl) ?_
     refine wpAnyV_take (i := 1) (oi := ⟨some 61, _, _, _, _, _⟩) (v := .agg #[.string x.nm, .int .i64 x.sg, .slice x.pa.a p1 x.pa.c, .slice x.po.a p2 x.po.c, .slice x.ov.a p3 x.ov.c, .slice x.fl.a p4 x.fl.c]) (fun w' => w'.cell? ⟨gx, 0, none⟩ = some (.string x.nm) ∧ w'.cell? ⟨gx, 1, none⟩ = some (.int .i64 x.sg) ∧ w'.cell? ⟨gx, 2, none⟩ = some (.slice x.pa.a p1 x.pa.c) ∧ w'.cell? ⟨gx, 3, none⟩ = some (.slice x.po.a p2 x.po.c) ∧ w'.cell? ⟨gx, 4, none⟩ = some (.slice x.ov.a p3 x.ov.c) ∧ w'.cell? ⟨gx, 5, none⟩ = some (.slice x.fl.a p4 x.fl.c)) rfl (by kernel_rfl) (by kernel_rfl) (by kernel_rfl) (fun _ _ _ h => h) (waits_none (by kernel_rfl)) (by kernel_rfl) (Or.inl ⟨by rfl, fun w hS => by (try dsimp only at hS); obtain ⟨u0, u1, u2, u3, u4, u5⟩ := hS; go_simp⟩) (box6 HS0.out.bx) (all1 (.inr (blk_cell HQ9.out 0 _ rfl))) ?_
     try simp only [Act.put, List.setIfInBounds_toArray, List.set_cons_zero, List.set_cons_succ]
     refine wpAnyV_re 7 #[true, true, false, false, false, true, false, false, false, false] (by kernel_rfl) (by kernel_rfl) ?_
     refine wpAnyV_take (i := 4) (oi := ⟨some 64, _, _, _, _, _⟩) (v := v10) (fun w' => w'.cell? ⟨g10, 0, none⟩ = some v10) rfl (by kernel_rfl) (by kernel_rfl) (by kernel_rfl) (fun _ _ _ h => h) (waits_none (by kernel_rfl)) (by kernel_rfl) (Or.inl ⟨by rfl, fun w hS => by (try dsimp only at hS); go_simp⟩) (blk_cell HQ10.out 0 _ rfl) (all2 (.inr (box6 HS0.out.bx)) (.inr (blk_cell HQ9.out 0 _ rfl))) ?_
     try simp only [Act.put, List.setIfInBounds_toArray, List.set_cons_zero, List.set_cons_succ]
     refine wpAnyV_re 6 #[true, true, false, false, true, true, false, false, false, false] (by kernel_rfl) (by kernel_rfl) ?_
     refine wpAnyV_re 6 #[true, true, false, false, true, true, false, false, false, false] (by kernel_rfl) (by kernel_rfl) ?_
     refine wpAnyV_ready (rs := [2, 6]) (by kernel_rfl) (by simp) (AllReadyV.cons (o := ⟨some 62, _, _, _, _, _⟩) rfl rfl (fun K hK => ?_) (AllReadyV.cons (o := ⟨some 66, _, _, _, _, _⟩) rfl rfl (fun K hK => ?_) AllReadyV.nil))
     ·go_simp
      refine name_K ?_
      intro V1 hV
      obtain ⟨ga, hg⟩ : ∃ g, g = w7.heap.size := ⟨_, rfl⟩
      have HS1 : Hid (Ts w w7 V1 B gx [.string x.nm, .int .i64 x.sg, .slice x.pa.a p1 x.pa.c, .slice x.po.a p2 x.po.c, .slice x.ov.a p3 x.ov.c, .slice x.fl.a p4 x.fl.c] (k : Int) (some ga) none v9 v10 (shR L p k) (shI p k)) := Lib.hid (by rw [hV, hg]; exact HS0.out.bA)
      try rw [← hg]
      clear hg hV
      refine hK _ _ (all3 (.inr (blk_cell (HS1.out.old g10 _ HB10.out HQ10.out) 0 _ rfl)) (.inl (by kernel_rfl)) (.inr (blk_cell (HS1.out.old g9 _ HB9.out HQ9.out) 0 _ rfl))) ?_
      clear hK K
      try simp only [Act.put, List.setIfInBounds_toArray, List.set_cons_zero, List.set_cons_succ]
      refine wpAnyV_re 5 #[true, true, true, false, true, true, false, false, false, false] (by kernel_rfl) (by kernel_rfl) ?_
      refine wpAnyV_ready (rs := [3, 6]) (by kernel_rfl) (by simp) (AllReadyV.cons (o := ⟨some 63, _, _, _, _, _⟩) rfl rfl (fun K hK => ?_) (AllReadyV.cons (o := ⟨some 66, _, _, _, _, _⟩) rfl rfl (fun K hK => ?_) AllReadyV.nil))
      ·refine wp_append_src3 _ _ 25 rfl B 54 iR (.agg #[.string ⟨#[]⟩, .int .i64 0, .slice none 0 0, .slice none 0 0, .slice none 0 0, .slice none 0 0]) 6 120 Try.underlying25 hR hR0 hR1 hR2 rfl (by decide) v9 _ _ rfl HS1.out.o9 (some ⟨ga, 0, none⟩) 1 1 [.string x.nm, .int .i64 x.sg, .slice x.pa.a p1 x.pa.c, .slice x.po.a p2 x.po.c, .slice x.ov.a p3 x.ov.c, .slice x.fl.a p4 x.fl.c] rfl rfl (src_blk (HS1.out.ha ga rfl).1 rfl HONE.out) (by have := HRL.out; unfold maxLen; omega) (by have := HRL.out; omega) HS1.out.big ?_
       intro v9n V2 ho hg hn
       have HS2 : Hid (Ts w w7 V2 B gx [.string x.nm, .int .i64 x.sg, .slice x.pa.a p1 x.pa.c, .slice x.po.a p2 x.po.c, .slice x.ov.a p3 x.ov.c, .slice x.fl.a p4 x.fl.c] (k : Int) none none v9n v10 ((shR L p k) ++ [x]) (shI p k)) := Lib.hid (HS1.out.aA HXL.out ho hg hn)
       clear ho hg hn
       refine hK _ _ (all3 (.inr (blk_cell (HS2.out.old g10 _ HB10.out HQ10.out) 0 _ rfl)) (.inl (by kernel_rfl)) (.inl (by kernel_rfl))) ?_
       clear hK K
       try simp only [Act.put, List.setIfInBounds_toArray, List.set_cons_zero, List.set_cons_succ]
       refine wpAnyV_re 4 #[true, true, true, true, true, true, false, false, false, false] (by kernel_rfl) (by kernel_rfl) ?_
       refine wpAnyV_ready (rs := [6]) (by kernel_rfl) (by simp) (AllReadyV.cons (o := ⟨some 66, _, _, _, _, _⟩) rfl rfl (fun K hK => ?_) AllReadyV.nil)
       go_simp
       refine name_K ?_
       intro V3 hV
       obtain ⟨gb, hg⟩ : ∃ g, g = V2.heap.size := ⟨_, rfl⟩
       have HS3 : Hid (Ts w w7 V3 B gx [.string x.nm, .int .i64 x.sg, .slice x.pa.a p1 x.pa.c, .slice x.po.a p2 x.po.c, .slice x.ov.a p3 x.ov.c, .slice x.fl.a p4 x.fl.c] (k : Int) none (some gb) v9n v10 ((shR L p k) ++ [x]) (shI p k)) := Lib.hid (by rw [hV, hg]; exact HS2.out.bB)
       try rw [← hg]
       clear hg hV
       refine hK _ _ (all3 (.inr (blk_cell (HS3.out.old g10 _ HB10.out HQ10.out) 0 _ rfl)) (.inl (by kernel_rfl)) (.inl (by kernel_rfl))) ?_
       clear hK K
       try simp only [Act.put, List.setIfInBounds_toArray, List.set_cons_zero, List.set_cons_succ]
       refine wpAnyV_re 3 #[true, true, true, true, true, true, true, false, false, false] (by kernel_rfl) (by kernel_rfl) ?_
       refine wpAnyV_ready (rs := [7]) (by kernel_rfl) (by simp) (AllReadyV.cons (o := ⟨some 67, _, _, _, _, _⟩) rfl rfl (fun K hK => ?_) AllReadyV.nil)
       refine wp_append_src3 _ _ 51 rfl B 3 iI (.int .i64 0) 1 8 Try.underlying51 hI hI0 hI1 hI2 rfl (by decide) v10 _ _ rfl HS3.out.o10 (some ⟨gb, 0, none⟩) 1 1 [.int .i64 (k : Int)] rfl rfl (src_one rfl (HS3.out.hb gb rfl).1) (by have := HIL.out; unfold maxLen; omega) (by have := HIL.out; omega) HS3.out.big ?_
       intro v10n V4 ho hg hn
       have HS4 : Hid (Ts w w7 V4 B gx [.string x.nm, .int .i64 x.sg, .slice x.pa.a p1 x.pa.c, .slice x.po.a p2 x.po.c, .slice x.ov.a p3 x.ov.c, .slice x.fl.a p4 x.fl.c] (k : Int) none none v9n v10n ((shR L p k) ++ [x]) ((shI p k) ++ [(k : Int)])) := Lib.hid (HS3.out.aB ho hg hn)
       clear ho hg hn
       refine hK _ _ (all3 (.inl (by kernel_rfl)) (.inl (by kernel_rfl)) (.inl (by kernel_rfl))) ?_
       clear hK K
       try simp only [Act.put, List.setIfInBounds_toArray, List.set_cons_zero, List.set_cons_succ]
       refine wpAnyV_re 2 #[true, true, true, true, true, true, true, true, false, false] (by kernel_rfl) (by kernel_rfl) ?_
       obtain ⟨a9, c9, hv9⟩ := own_sh HS4.out.o9
       obtain ⟨a0, c0, hv0⟩ := own_sh HS4.out.o10
       subst hv9
       subst hv0
       refine wpAnyV_ready (rs := [8]) (by kernel_rfl) (by simp) (AllReadyV.cons (o := ⟨none, _, _, _, _, _⟩) rfl rfl (fun K hK => ?_) AllReadyV.nil)
       have qa := HS4.out.old g9 _ HB9.out HQ9.out
       have ca := blk_cell qa 0 _ rfl
       have fa := blk_free qa 0
       go_simp
       refine name_K ?_
       intro VA hV
       have HOA : Hid (Only g9 V4 VA) := Lib.hid (by rw [hV]; exact (Only.refl g9 V4).setCell rfl _)
       have HQA : Hid (VA.heap[g9]? = some (.cells #[.slice a9 (((shR L p k) ++ [x])).length c9] 25)) := Lib.hid (by rw [hV, List.length_append]; exact blk_set qa 0 _)
       clear hV qa ca fa
       refine hK _ _ (all3 (.inl (by kernel_rfl)) (.inl (by kernel_rfl)) (.inl (by kernel_rfl))) ?_
       clear hK K
       refine wpAnyV_re 1 #[true, true, true, true, true, true, true, true, true, false] (by kernel_rfl) (by kernel_rfl) ?_
       refine wpAnyV_ready (rs := [9]) (by kernel_rfl) (by simp) (AllReadyV.cons (o := ⟨none, _, _, _, _, _⟩) rfl rfl (fun K hK => ?_) AllReadyV.nil)
       have qa := HOA.out.keep (k := g10) (by have := HNE.out; omega) (HS4.out.old g10 _ HB10.out HQ10.out)
       have ca := blk_cell qa 0 _ rfl
       have fa := blk_free qa 0
       go_simp
       refine name_K ?_
       intro VB hV
       have HOB : Hid (Only g10 VA VB) := Lib.hid (by rw [hV]; exact (Only.refl g10 VA).setCell rfl _)
       have HQB : Hid (VB.heap[g10]? = some (.cells #[.slice a0 (((shI p k) ++ [(k : Int)])).length c0] 51)) := Lib.hid (by rw [hV, List.length_append]; exact blk_set qa 0 _)
       clear hV qa ca fa
       refine hK _ _ (all3 (.inl (by kernel_rfl)) (.inl (by kernel_rfl)) (.inl (by kernel_rfl))) ?_
       clear hK K
       refine wpAnyV_done (by kernel_rfl) ?_ _
       have HFIN := Lib.hid (HPK.out _ _ _ _ _ HS4.out HOA.out HQA.out HOB.out HQB.out)
       go_wp2_with fail
       rw [← HXX.out]
       go_roundg (n4 - (k + 1))
       case rel => exact ⟨k + 1, _, _, sa_next HK.out HLT.out, by go_num, HFIN.out⟩
       case measure => exact sa_less HK.out HLT.out
      ·go_simp
       refine name_K ?_
       intro V2 hV
       obtain ⟨gb, hg⟩ : ∃ g, g = V1.heap.size := ⟨_, rfl⟩
       have HS2 : Hid (Ts w w7 V2 B gx [.string x.nm, .int .i64 x.sg, .slice x.pa.a p1 x.pa.c, .slice x.po.a p2 x.po.c, .slice x.ov.a p3 x.ov.c, .slice x.fl.a p4 x.fl.c] (k : Int) (some ga) (some gb) v9 v10 (shR L p k) (shI p k)) := Lib.hid (by rw [hV, hg]; exact HS1.out.bB)
       try rw [← hg]
       clear hg hV
       refine hK _ _ (all3 (.inr (blk_cell (HS2.out.old g10 _ HB10.out HQ10.out) 0 _ rfl)) (.inl (by kernel_rfl)) (.inr (blk_cell (HS2.out.old g9 _ HB9.out HQ9.out) 0 _ rfl))) ?_
       clear hK K
       try simp only [Act.put, List.setIfInBounds_toArray, List.set_cons_zero, List.set_cons_succ]
       refine wpAnyV_re 4 #[true, true, true, false, true, true, true, false, false, false] (by kernel_rfl) (by kernel_rfl) ?_
       refine wpAnyV_ready (rs := [3]) (by kernel_rfl) (by simp) (AllReadyV.cons (o := ⟨some 63, _, _, _, _, _⟩) rfl rfl (fun K hK => ?_) AllReadyV.nil)
       refine wp_append_src3 _ _ 25 rfl B 54 iR (.agg #[.string ⟨#[]⟩, .int .i64 0, .slice none 0 0, .slice none 0 0, .slice none 0 0, .slice none 0 0]) 6 120 Try.underlying25 hR hR0 hR1 hR2 rfl (by decide) v9 _ _ rfl HS2.out.o9 (some ⟨ga, 0, none⟩) 1 1 [.string x.nm, .int .i64 x.sg, .slice x.pa.a p1 x.pa.c, .slice x.po.a p2 x.po.c, .slice x.ov.a p3 x.ov.c, .slice x.fl.a p4 x.fl.c] rfl rfl (src_blk (HS2.out.ha ga rfl).1 rfl HONE.out) (by have := HRL.out; unfold maxLen; omega) (by have := HRL.out; omega) HS2.out.big ?_
       intro v9n V3 ho hg hn
       have HS3 : Hid (Ts w w7 V3 B gx [.string x.nm, .int .i64 x.sg, .slice x.pa.a p1 x.pa.c, .slice x.po.a p2 x.po.c, .slice x.ov.a p3 x.ov.c, .slice x.fl.a p4 x.fl.c] (k : Int) none (some gb) v9n v10 ((shR L p k) ++ [x]) (shI p k)) := Lib.hid (HS2.out.aA HXL.out ho hg hn)
       clear ho hg hn
       refine hK _ _ (all3 (.inr (blk_cell (HS3.out.old g10 _ HB10.out HQ10.out) 0 _ rfl)) (.inl (by kernel_rfl)) (.inl (by kernel_rfl))) ?_
       clear hK K
       try simp only [Act.put, List.setIfInBounds_toArray, List.set_cons_zero, List.set_cons_succ]
       refine wpAnyV_re 3 #[true, true, true, true, true, true, true, false, false, false] (by kernel_rfl) (by kernel_rfl) ?_
       refine wpAnyV_ready (rs := [7]) (by kernel_rfl) (by simp) (AllReadyV.cons (o := ⟨some 67, _, _, _, _, _⟩) rfl rfl (fun K hK => ?_) AllReadyV.nil)
       refine wp_append_src3 _ _ 51 rfl B 3 iI (.int .i64 0) 1 8 Try.underlying51 hI hI0 hI1 hI2 rfl (by decide) v10 _ _ rfl HS3.out.o10 (some ⟨gb, 0, none⟩) 1 1 [.int .i64 (k : Int)] rfl rfl (src_one rfl (HS3.out.hb gb rfl).1) (by have := HIL.out; unfold maxLen; omega) (by have := HIL.out; omega) HS3.out.big ?_
       intro v10n V4 ho hg hn
       have HS4 : Hid (Ts w w7 V4 B gx [.string x.nm, .int .i64 x.sg, .slice x.pa.a p1 x.pa.c, .slice x.po.a p2 x.po.c, .slice x.ov.a p3 x.ov.c, .slice x.fl.a p4 x.fl.c] (k : Int) none none v9n v10n ((shR L p k) ++ [x]) ((shI p k) ++ [(k : Int)])) := Lib.hid (HS3.out.aB ho hg hn)
       clear ho hg hn
       refine hK _ _ (all3 (.inl (by kernel_rfl)) (.inl (by kernel_rfl)) (.inl (by kernel_rfl))) ?_
       clear hK K
       try simp only [Act.put, List.setIfInBounds_toArray, List.set_cons_zero, List.set_cons_succ]
       refine wpAnyV_re 2 #[true, true, true, true, true, true, true, true, false, false] (by kernel_rfl) (by kernel_rfl) ?_
       obtain ⟨a9, c9, hv9⟩ := own_sh HS4.out.o9
       obtain ⟨a0, c0, hv0⟩ := own_sh HS4.out.o10
       subst hv9
       subst hv0
       refine wpAnyV_ready (rs := [8]) (by kernel_rfl) (by simp) (AllReadyV.cons (o := ⟨none, _, _, _, _, _⟩) rfl rfl (fun K hK => ?_) AllReadyV.nil)
       have qa := HS4.out.old g9 _ HB9.out HQ9.out
       have ca := blk_cell qa 0 _ rfl
       have fa := blk_free qa 0
       go_simp
       refine name_K ?_
       intro VA hV
       have HOA : Hid (Only g9 V4 VA) := Lib.hid (by rw [hV]; exact (Only.refl g9 V4).setCell rfl _)
       have HQA : Hid (VA.heap[g9]? = some (.cells #[.slice a9 (((shR L p k) ++ [x])).length c9] 25)) := Lib.hid (by rw [hV, List.length_append]; exact blk_set qa 0 _)
       clear hV qa ca fa
       refine hK _ _ (all3 (.inl (by kernel_rfl)) (.inl (by kernel_rfl)) (.inl (by kernel_rfl))) ?_
       clear hK K
       refine wpAnyV_re 1 #[true, true, true, true, true, true, true, true, true, false] (by kernel_rfl) (by kernel_rfl) ?_
       refine wpAnyV_ready (rs := [9]) (by kernel_rfl) (by simp) (AllReadyV.cons (o := ⟨none, _, _, _, _, _⟩) rfl rfl (fun K hK => ?_) AllReadyV.nil)
       have qa := HOA.out.keep (k := g10) (by have := HNE.out; omega) (HS4.out.old g10 _ HB10.out HQ10.out)
       have ca := blk_cell qa 0 _ rfl
       have fa := blk_free qa 0
       go_simp
       refine name_K ?_
       intro VB hV
       have HOB : Hid (Only g10 VA VB) := Lib.hid (by rw [hV]; exact (Only.refl g10 VA).setCell rfl _)
       have HQB : Hid (VB.heap[g10]? = some (.cells #[.slice a0 (((shI p k) ++ [(k : Int)])).length c0] 51)) := Lib.hid (by rw [hV, List.length_append]; exact blk_set qa 0 _)
       clear hV qa ca fa
       refine hK _ _ (all3 (.inl (by kernel_rfl)) (.inl (by kernel_rfl)) (.inl (by kernel_rfl))) ?_
       clear hK K
       refine wpAnyV_done (by kernel_rfl) ?_ _
       have HFIN := Lib.hid (HPK.out _ _ _ _ _ HS4.out HOA.out HQA.out HOB.out HQB.out)
       go_wp2_with fail
       rw [← HXX.out]
       go_roundg (n4 - (k + 1))
       case rel => exact ⟨k + 1, _, _, sa_next HK.out HLT.out, by go_num, HFIN.out⟩
       case measure => exact sa_less HK.out HLT.out
     ·go_simp
      refine name_K ?_
      intro V1 hV
      obtain ⟨gb, hg⟩ : ∃ g, g = w7.heap.size := ⟨_, rfl⟩
      have HS1 : Hid (Ts w w7 V1 B gx [.string x.nm, .int .i64 x.sg, .slice x.pa.a p1 x.pa.c, .slice x.po.a p2 x.po.c, .slice x.ov.a p3 x.ov.c, .slice x.fl.a p4 x.fl.c] (k : Int) none (some gb) v9 v10 (shR L p k) (shI p k)) := Lib.hid (by rw [hV, hg]; exact HS0.out.bB)
      try rw [← hg]
      clear hg hV
      refine hK _ _ (all3 (.inr (blk_cell (HS1.out.old g10 _ HB10.out HQ10.out) 0 _ rfl)) (.inr (box6 HS1.out.bx)) (.inr (blk_cell (HS1.out.old g9 _ HB9.out HQ9.out) 0 _ rfl))) ?_
      clear hK K
      try simp only [Act.put, List.setIfInBounds_toArray, List.set_cons_zero, List.set_cons_succ]
      refine wpAnyV_re 5 #[true, true, false, false, true, true, true, false, false, false] (by kernel_rfl) (by kernel_rfl) ?_
      refine wpAnyV_ready (rs := [2]) (by kernel_rfl) (by simp) (AllReadyV.cons (o := ⟨some 62, _, _, _, _, _⟩) rfl rfl (fun K hK => ?_) AllReadyV.nil)
      go_simp
      refine name_K ?_
      intro V2 hV
      obtain ⟨ga, hg⟩ : ∃ g, g = V1.heap.size := ⟨_, rfl⟩
      have HS2 : Hid (Ts w w7 V2 B gx [.string x.nm, .int .i64 x.sg, .slice x.pa.a p1 x.pa.c, .slice x.po.a p2 x.po.c, .slice x.ov.a p3 x.ov.c, .slice x.fl.a p4 x.fl.c] (k : Int) (some ga) (some gb) v9 v10 (shR L p k) (shI p k)) := Lib.hid (by rw [hV, hg]; exact HS1.out.bA)
      try rw [← hg]
      clear hg hV
      refine hK _ _ (all3 (.inr (blk_cell (HS2.out.old g10 _ HB10.out HQ10.out) 0 _ rfl)) (.inl (by kernel_rfl)) (.inr (blk_cell (HS2.out.old g9 _ HB9.out HQ9.out) 0 _ rfl))) ?_
      clear hK K
      try simp only [Act.put, List.setIfInBounds_toArray, List.set_cons_zero, List.set_cons_succ]
      refine wpAnyV_re 4 #[true, true, true, false, true, true, true, false, false, false] (by kernel_rfl) (by kernel_rfl) ?_
      refine wpAnyV_ready (rs := [3]) (by kernel_rfl) (by simp) (AllReadyV.cons (o := ⟨some 63, _, _, _, _, _⟩) rfl rfl (fun K hK => ?_) AllReadyV.nil)
      refine wp_append_src3 _ _ 25 rfl B 54 iR (.agg #[.string ⟨#[]⟩, .int .i64 0, .slice none 0 0, .slice none 0 0, .slice none 0 0, .slice none 0 0]) 6 120 Try.underlying25 hR hR0 hR1 hR2 rfl (by decide) v9 _ _ rfl HS2.out.o9 (some ⟨ga, 0, none⟩) 1 1 [.string x.nm, .int .i64 x.sg, .slice x.pa.a p1 x.pa.c, .slice x.po.a p2 x.po.c, .slice x.ov.a p3 x.ov.c, .slice x.fl.a p4 x.fl.c] rfl rfl (src_blk (HS2.out.ha ga rfl).1 rfl HONE.out) (by have := HRL.out; unfold maxLen; omega) (by have := HRL.out; omega) HS2.out.big ?_
      intro v9n V3 ho hg hn
      have HS3 : Hid (Ts w w7 V3 B gx [.string x.nm, .int .i64 x.sg, .slice x.pa.a p1 x.pa.c, .slice x.po.a p2 x.po.c, .slice x.ov.a p3 x.ov.c, .slice x.fl.a p4 x.fl.c] (k : Int) none (some gb) v9n v10 ((shR L p k) ++ [x]) (shI p k)) := Lib.hid (HS2.out.aA HXL.out ho hg hn)
      clear ho hg hn
      refine hK _ _ (all3 (.inr (blk_cell (HS3.out.old g10 _ HB10.out HQ10.out) 0 _ rfl)) (.inl (by kernel_rfl)) (.inl (by kernel_rfl))) ?_
      clear hK K
      try simp only [Act.put, List.setIfInBounds_toArray, List.set_cons_zero, List.set_cons_succ]
      refine wpAnyV_re 3 #[true, true, true, true, true, true, true, false, false, false] (by kernel_rfl) (by kernel_rfl) ?_
      refine wpAnyV_ready (rs := [7]) (by kernel_rfl) (by simp) (AllReadyV.cons (o := ⟨some 67, _, _, _, _, _⟩) rfl rfl (fun K hK => ?_) AllReadyV.nil)
      refine wp_append_src3 _ _ 51 rfl B 3 iI (.int .i64 0) 1 8 Try.underlying51 hI hI0 hI1 hI2 rfl (by decide) v10 _ _ rfl HS3.out.o10 (some ⟨gb, 0, none⟩) 1 1 [.int .i64 (k : Int)] rfl rfl (src_one rfl (HS3.out.hb gb rfl).1) (by have := HIL.out; unfold maxLen; omega) (by have := HIL.out; omega) HS3.out.big ?_
      intro v10n V4 ho hg hn
      have HS4 : Hid (Ts w w7 V4 B gx [.string x.nm, .int .i64 x.sg, .slice x.pa.a p1 x.pa.c, .slice x.po.a p2 x.po.c, .slice x.ov.a p3 x.ov.c, .slice x.fl.a p4 x.fl.c] (k : Int) none none v9n v10n ((shR L p k) ++ [x]) ((shI p k) ++ [(k : Int)])) := Lib.hid (HS3.out.aB ho hg hn)
      clear ho hg hn
      refine hK _ _ (all3 (.inl (by kernel_rfl)) (.inl (by kernel_rfl)) (.inl (by kernel_rfl))) ?_
      clear hK K
      try simp only [Act.put, List.setIfInBounds_toArray, List.set_cons_zero, List.set_cons_succ]
      refine wpAnyV_re 2 #[true, true, true, true, true, true, true, true, false, false] (by kernel_rfl) (by kernel_rfl) ?_
      obtain ⟨a9, c9, hv9⟩ := own_sh HS4.out.o9
      obtain ⟨a0, c0, hv0⟩ := own_sh HS4.out.o10
      subst hv9
      subst hv0
      refine wpAnyV_ready (rs := [8]) (by kernel_rfl) (by simp) (AllReadyV.cons (o := ⟨none, _, _, _, _, _⟩) rfl rfl (fun K hK => ?_) AllReadyV.nil)
      have qa := HS4.out.old g9 _ HB9.out HQ9.out
      have ca := blk_cell qa 0 _ rfl
      have fa := blk_free qa 0
      go_simp
      refine name_K ?_
      intro VA hV
      have HOA : Hid (Only g9 V4 VA) := Lib.hid (by rw [hV]; exact (Only.refl g9 V4).setCell rfl _)
      have HQA : Hid (VA.heap[g9]? = some (.cells #[.slice a9 (((shR L p k) ++ [x])).length c9] 25)) := Lib.hid (by rw [hV, List.length_append]; exact blk_set qa 0 _)
      clear hV qa ca fa
      refine hK _ _ (all3 (.inl (by kernel_rfl)) (.inl (by kernel_rfl)) (.inl (by kernel_rfl))) ?_
      clear hK K
      refine wpAnyV_re 1 #[true, true, true, true, true, true, true, true, true, false] (by kernel_rfl) (by kernel_rfl) ?_
      refine wpAnyV_ready (rs := [9]) (by kernel_rfl) (by simp) (AllReadyV.cons (o := ⟨none, _, _, _, _, _⟩) rfl rfl (fun K hK => ?_) AllReadyV.nil)
      have qa := HOA.out.keep (k := g10) (by have := HNE.out; omega) (HS4.out.old g10 _ HB10.out HQ10.out)
      have ca := blk_cell qa 0 _ rfl
      have fa := blk_free qa 0
      go_simp
      refine name_K ?_
      intro VB hV
      have HOB : Hid (Only g10 VA VB) := Lib.hid (by rw [hV]; exact (Only.refl g10 VA).setCell rfl _)
      have HQB : Hid (VB.heap[g10]? = some (.cells #[.slice a0 (((shI p k) ++ [(k : Int)])).length c0] 51)) := Lib.hid (by rw [hV, List.length_append]; exact blk_set qa 0 _)
      clear hV qa ca fa
      refine hK _ _ (all3 (.inl (by kernel_rfl)) (.inl (by kernel_rfl)) (.inl (by kernel_rfl))) ?_
      clear hK K
      refine wpAnyV_done (by kernel_rfl) ?_ _
      have HFIN := Lib.hid (HPK.out _ _ _ _ _ HS4.out HOA.out HQA.out HOB.out HQB.out)
      go_wp2_with fail
      rw [← HXX.out]
      go_roundg (n4 - (k + 1))
      case rel => exact ⟨k + 1, _, _, sa_next HK.out HLT.out, by go_num, HFIN.out⟩
      case measure => exact sa_less HK.out HLT.out
  ·have d2 : ¬ ((k : Int) < n4) := by omega
   have hkn : k = n4 := by have := HK.out; omega
   have HRF : Hid (RwS w wr B gl gi go g9 g10 (.cells #[.slice L.se.a n1 L.se.c, .slice L.po.a n2 L.po.c, .slice L.sg.a n3 L.sg.c, .slice L.rt.a n4 L.rt.c] 27) (.cells #[.int .u64 (ox : Int), .int .u32 (nx : Int), .int .u32 (rx : Int), .slice ia il ic] 32) (.cells #[.int .u64 (p : Int), .int .u32 (q : Int)] 34) v9 v10 (shR L p n4) (shI p n4)) := Lib.hid (by subst hkn; exact HR.out)
   obtain ⟨x9, c9, h9, hr9⟩ := own_rowat rt_len HRF.out.o9
   obtain ⟨x10, c10, h10, hr10⟩ := own_rowat (f := intC) (fun _ => rfl) HRF.out.o10
   subst h9
   subst h10
   have HR9 := Lib.hid hr9
   have HR10 := Lib.hid hr10
   have HRL : Hid ((shR L p n4).length ≤ 9223372036854775807) := Lib.hid (by rw [shR_len (by have := HN4.out; omega)]; have := shI_len p n4; have := HS4.out; omega)
   have HIL : Hid ((shI p n4).length ≤ 9223372036854775807) := Lib.hid (by have := shI_len p n4; have := HS4.out; omega)
   clear hr9 hr10 hkn HR HK hlt
   obtain ⟨i0, i1, i2, i3⟩ := box4c HRF.out.qi
   go_wp2_with fail
   refine (HSD.out _).mono ?_
   rintro e w2 ⟨rfl, hb⟩
   clear i0 i1 i2 i3 d2
   go_upto_region 16 with fail
   refine name_last (os := [.cells #[.int .u32 (nN : Int)] 29, .cells #[.int .u32 (nV : Int)] 29, .cells #[.nilFunc, .nilFunc, .nilFunc, .func (.func 22) #[] #[.pointer (some ⟨g10, 0, none⟩), .pointer (some ⟨gl, 0, none⟩)], .func (.func 27) #[] #[.pointer (some ⟨g9, 0, none⟩), .pointer (some ⟨gi, 0, none⟩)], .func (.func 32) #[] #[.pointer (some ⟨g9, 0, none⟩), .pointer (some ⟨(w2.heap.size + 1), 0, none⟩), .pointer (some ⟨w2.heap.size, 0, none⟩)], .func (.func 35) #[] #[.pointer (some ⟨g9, 0, none⟩), .pointer (some ⟨go, 0, none⟩)]] 81]) (w0 := w2) rfl ?_
   intro W2 hat hbw
   obtain ⟨g13, hg13⟩ : ∃ g, g = w2.heap.size := ⟨_, rfl⟩
   obtain ⟨g14, hg14⟩ : ∃ g, g = g13 + 1 := ⟨_, rfl⟩
   obtain ⟨g15, hg15⟩ : ∃ g, g = g14 + 1 := ⟨_, rfl⟩
   have q13 := hat 0 _ rfl
   have q14 := hat 1 _ rfl
   have q15 := hat 2 _ rfl
   rw [Nat.add_zero, ← hg13] at q13
   rw [← hg13, ← hg14] at q14
   rw [← hg13, ← hg14, show g13 + 2 = g15 by omega] at q15
   rw [← hg13, ← hg14, ← hg15]
   have hbc : Below wr.heap.size wr W2 := below_on hb hbw
   have HBC := Lib.hid hbc
   obtain ⟨z3, hz3⟩ : ∃ z, claI L (shI p n4) = z := ⟨_, rfl⟩
   obtain ⟨z4, hz4⟩ : ∃ z, occS ox (shR L p n4) = z := ⟨_, rfl⟩
   obtain ⟨z5, hz5⟩ : ∃ z, lieS nN nV (shR L p n4) = z := ⟨_, rfl⟩
   obtain ⟨z6, hz6⟩ : ∃ z, turS q (shR L p n4) = z := ⟨_, rfl⟩
   have HF3 : Hid (∀ W, Below W2.heap.size W2 W → Calls Try.prog 22 #[.pointer (some ⟨g10, 0, none⟩), .pointer (some ⟨gl, 0, none⟩)] W fun e w' => e = .returned (.bool z3) ∧ Below W.heap.size W w') := Lib.hid (fun W hW => by
    have hall := below_on hbc hW
    have hw := below_on HRF.out.below hall
    exact cl1_is z3 L g10 gl x10 _ c10 (shI p n4) hz3 W (HLW.out.below hw) (by rw [HVS.out.1, HVS.out.2.1, HVS.out.2.2.1, HVS.out.2.2.2]; exact blk_keep hall HRF.out.ql) (blk_keep hall HRF.out.q10) (HR10.out.below hall) rfl HIL.out)
   have HF4 : Hid (∀ W, Below W2.heap.size W2 W → Calls Try.prog 27 #[.pointer (some ⟨g9, 0, none⟩), .pointer (some ⟨gi, 0, none⟩)] W fun e w' => e = .returned (.bool z4) ∧ Below W.heap.size W w') := Lib.hid (fun W hW => by
    have hall := below_on hbc hW
    have hw := below_on HRF.out.below hall
    exact cm1_is z4 g9 gi ox nx rx _ x9 _ c9 (shR L p n4) (tr_ok HM.out) HO.out hz4 (le_tr HM.out) W (fun r hr => (HLW.out.rn r (shR_mem r hr)).below hw) (blk_keep hall HRF.out.q9) (HR9.out.below hall) rfl HRL.out (blk_keep hall HRF.out.qi))
   have HF5 : Hid (∀ W, Below W2.heap.size W2 W → Calls Try.prog 32 #[.pointer (some ⟨g9, 0, none⟩), .pointer (some ⟨g14, 0, none⟩), .pointer (some ⟨g13, 0, none⟩)] W fun e w' => e = .returned (.bool z5) ∧ Below W.heap.size W w') := Lib.hid (fun W hW => by
    have hall := below_on hbc hW
    have hw := below_on HRF.out.below hall
    exact top_c z5 g9 g14 g13 nN nV x9 _ c9 (shR L p n4) (nd_ok HM.out) HNV.out.1 HNV.out.2 (by rw [← hz5]; unfold lieS; rfl) (le_nd HM.out) W (fun r hr => (HLW.out.rn r (shR_mem r hr)).below hw) (blk_keep hall HRF.out.q9) (HR9.out.below hall) rfl HRL.out (blk_keep hW q14) (blk_keep hW q13))
   have HF6 : Hid (∀ W, Below W2.heap.size W2 W → Calls Try.prog 35 #[.pointer (some ⟨g9, 0, none⟩), .pointer (some ⟨go, 0, none⟩)] W fun e w' => e = .returned (.bool z6) ∧ Below W.heap.size W w') := Lib.hid (fun W hW => by
    have hall := below_on hbc hW
    have hw := below_on HRF.out.below hall
    exact top_d z6 g9 go p q x9 _ c9 (shR L p n4) (nd_ok HM.out) HQ2.out (by rw [← hz6]; unfold turS; rfl) (le_nd HM.out) W (fun r hr => (HLW.out.rn r (shR_mem r hr)).below hw) (blk_keep hall HRF.out.q9) (HR9.out.below hall) rfl HRL.out (blk_keep hall HRF.out.qo))
   have HZ3 : Hid (claI L (shI p L.rt.l.length) = z3) := Lib.hid (by rw [HN4.out]; exact hz3)
   have HZ4 : Hid (occS ox (shR L p L.rt.l.length) = z4) := Lib.hid (by rw [HN4.out]; exact hz4)
   have HZ5 : Hid (lieS nN nV (shR L p L.rt.l.length) = z5) := Lib.hid (by rw [HN4.out]; exact hz5)
   have HZ6 : Hid (turS q (shR L p L.rt.l.length) = z6) := Lib.hid (by rw [HN4.out]; exact hz6)
   clear hat hb hbw hbc hg13 hg14 hg15 q13 q14 hz3 hz4 hz5 hz6
   have c0 := blk_cell q15 0 _ rfl
   have c1 := blk_cell q15 1 _ rfl
   have c2 := blk_cell q15 2 _ rfl
   have c3 := blk_cell q15 3 _ rfl
   have c4 := blk_cell q15 4 _ rfl
   have c5 := blk_cell q15 5 _ rfl
   have c6 := blk_cell q15 6 _ rfl
   clear q15
   go_upto_region 17 with fail
   clear c0 c1 c2 c3 c4 c5 c6
   go_loopg [80] 7 (fun g i wq => ∃ (k : Nat), k + g = 7 ∧ i = .int .i64 (k : Int) ∧ Below W2.heap.size W2 wq ∧ (4 ≤ k → z3 = false) ∧ (5 ≤ k → z4 = false) ∧ (6 ≤ k → z5 = false) ∧ (7 ≤ k → z6 = false))
   case atStart => exact ⟨0, by omega, rfl, Below.refl _ _, fun h => absurd h (by omega), fun h => absurd h (by omega), fun h => absurd h (by omega), fun h => absurd h (by omega)⟩
   case round =>
    obtain ⟨k, hk, rfl, hbq, f3, f4, f5, f6⟩ := hrel
    have HBQ := Lib.hid hbq
    have HF := Lib.hid (And.intro f3 (And.intro f4 (And.intro f5 f6)))
    have hkk : k = 0 ∨ k = 1 ∨ k = 2 ∨ k = 3 ∨ k = 4 ∨ k = 5 ∨ k = 6 ∨ k = 7 := by omega
    have HK := Lib.hid hk
    clear hbq f3 f4 f5 f6 hk
    rcases hkk with rfl | rfl | rfl | rfl | rfl | rfl | rfl | rfl
    ·have xk : ∀ w : World, (Instr.index 81 (.agg #[.nilFunc, .nilFunc, .nilFunc, .func (.func 22) #[] #[.pointer (some ⟨g10, 0, none⟩), .pointer (some ⟨gl, 0, none⟩)], .func (.func 27) #[] #[.pointer (some ⟨g9, 0, none⟩), .pointer (some ⟨gi, 0, none⟩)], .func (.func 32) #[] #[.pointer (some ⟨g9, 0, none⟩), .pointer (some ⟨g14, 0, none⟩), .pointer (some ⟨g13, 0, none⟩)], .func (.func 35) #[] #[.pointer (some ⟨g9, 0, none⟩), .pointer (some ⟨go, 0, none⟩)]]) (.int .i64 0)).run Try.prog w = .ok (.nilFunc) w := fun _ => by kernel_rfl
     have xn : ∀ w : World, (binOp .neq 37 (.nilFunc) .nilFunc).run Try.prog w = .ok (.bool false) w := fun _ => by kernel_rfl
     go_wp2_with fail
     go_roundg (7 - 1)
     case rel => exact ⟨1, by omega, rfl, HBQ.out, fun h => absurd h (by omega), fun h => absurd h (by omega), fun h => absurd h (by omega), fun h => absurd h (by omega)⟩
     case measure => have := HK.out; omega
    ·have xk : ∀ w : World, (Instr.index 81 (.agg #[.nilFunc, .nilFunc, .nilFunc, .func (.func 22) #[] #[.pointer (some ⟨g10, 0, none⟩), .pointer (some ⟨gl, 0, none⟩)], .func (.func 27) #[] #[.pointer (some ⟨g9, 0, none⟩), .pointer (some ⟨gi, 0, none⟩)], .func (.func 32) #[] #[.pointer (some ⟨g9, 0, none⟩), .pointer (some ⟨g14, 0, none⟩), .pointer (some ⟨g13, 0, none⟩)], .func (.func 35) #[] #[.pointer (some ⟨g9, 0, none⟩), .pointer (some ⟨go, 0, none⟩)]]) (.int .i64 1)).run Try.prog w = .ok (.nilFunc) w := fun _ => by kernel_rfl
     have xn : ∀ w : World, (binOp .neq 37 (.nilFunc) .nilFunc).run Try.prog w = .ok (.bool false) w := fun _ => by kernel_rfl
     go_wp2_with fail
     go_roundg (7 - 2)
     case rel => exact ⟨2, by omega, rfl, HBQ.out, fun h => absurd h (by omega), fun h => absurd h (by omega), fun h => absurd h (by omega), fun h => absurd h (by omega)⟩
     case measure => have := HK.out; omega
    ·have xk : ∀ w : World, (Instr.index 81 (.agg #[.nilFunc, .nilFunc, .nilFunc, .func (.func 22) #[] #[.pointer (some ⟨g10, 0, none⟩), .pointer (some ⟨gl, 0, none⟩)], .func (.func 27) #[] #[.pointer (some ⟨g9, 0, none⟩), .pointer (some ⟨gi, 0, none⟩)], .func (.func 32) #[] #[.pointer (some ⟨g9, 0, none⟩), .pointer (some ⟨g14, 0, none⟩), .pointer (some ⟨g13, 0, none⟩)], .func (.func 35) #[] #[.pointer (some ⟨g9, 0, none⟩), .pointer (some ⟨go, 0, none⟩)]]) (.int .i64 2)).run Try.prog w = .ok (.nilFunc) w := fun _ => by kernel_rfl
     have xn : ∀ w : World, (binOp .neq 37 (.nilFunc) .nilFunc).run Try.prog w = .ok (.bool false) w := fun _ => by kernel_rfl
     go_wp2_with fail
     go_roundg (7 - 3)
     case rel => exact ⟨3, by omega, rfl, HBQ.out, fun h => absurd h (by omega), fun h => absurd h (by omega), fun h => absurd h (by omega), fun h => absurd h (by omega)⟩
     case measure => have := HK.out; omega
    ·have xk : ∀ w : World, (Instr.index 81 (.agg #[.nilFunc, .nilFunc, .nilFunc, .func (.func 22) #[] #[.pointer (some ⟨g10, 0, none⟩), .pointer (some ⟨gl, 0, none⟩)], .func (.func 27) #[] #[.pointer (some ⟨g9, 0, none⟩), .pointer (some ⟨gi, 0, none⟩)], .func (.func 32) #[] #[.pointer (some ⟨g9, 0, none⟩), .pointer (some ⟨g14, 0, none⟩), .pointer (some ⟨g13, 0, none⟩)], .func (.func 35) #[] #[.pointer (some ⟨g9, 0, none⟩), .pointer (some ⟨go, 0, none⟩)]]) (.int .i64 3)).run Try.prog w = .ok (.func (.func 22) #[] #[.pointer (some ⟨g10, 0, none⟩), .pointer (some ⟨gl, 0, none⟩)]) w := fun _ => by kernel_rfl
     have xn : ∀ w : World, (binOp .neq 37 (.func (.func 22) #[] #[.pointer (some ⟨g10, 0, none⟩), .pointer (some ⟨gl, 0, none⟩)]) .nilFunc).run Try.prog w = .ok (.bool true) w := fun _ => by kernel_rfl
     go_wp2_with fail
     refine (HF3.out _ HBQ.out).mono ?_
     rintro e w3 ⟨rfl, hb⟩
     have HB3 := Lib.hid hb
     clear hb
     cases z3 with
     | true =>
       have HT := Lib.hid (HZ.out.symm.trans (cyc_3 HC1.out HOUT.out HZ3.out))
       go_wp2_with fail
       go_ret
       exact ⟨by rw [HT.out]; rfl, below_on HRF.out.below (below_on HBC.out (below_on HBQ.out HB3.out))⟩
     | false =>
       go_wp2_with fail
       go_roundg (7 - 4)
       case rel => exact ⟨4, by omega, rfl, below_on HBQ.out HB3.out, fun _ => by first | trivial | rfl, fun h => absurd h (by omega), fun h => absurd h (by omega), fun h => absurd h (by omega)⟩
       case measure => have := HK.out; omega
    ·have xk : ∀ w : World, (Instr.index 81 (.agg #[.nilFunc, .nilFunc, .nilFunc, .func (.func 22) #[] #[.pointer (some ⟨g10, 0, none⟩), .pointer (some ⟨gl, 0, none⟩)], .func (.func 27) #[] #[.pointer (some ⟨g9, 0, none⟩), .pointer (some ⟨gi, 0, none⟩)], .func (.func 32) #[] #[.pointer (some ⟨g9, 0, none⟩), .pointer (some ⟨g14, 0, none⟩), .pointer (some ⟨g13, 0, none⟩)], .func (.func 35) #[] #[.pointer (some ⟨g9, 0, none⟩), .pointer (some ⟨go, 0, none⟩)]]) (.int .i64 4)).run Try.prog w = .ok (.func (.func 27) #[] #[.pointer (some ⟨g9, 0, none⟩), .pointer (some ⟨gi, 0, none⟩)]) w := fun _ => by kernel_rfl
     have xn : ∀ w : World, (binOp .neq 37 (.func (.func 27) #[] #[.pointer (some ⟨g9, 0, none⟩), .pointer (some ⟨gi, 0, none⟩)]) .nilFunc).run Try.prog w = .ok (.bool true) w := fun _ => by kernel_rfl
     go_wp2_with fail
     refine (HF4.out _ HBQ.out).mono ?_
     rintro e w3 ⟨rfl, hb⟩
     have HB3 := Lib.hid hb
     clear hb
     cases z4 with
     | true =>
       have HT := Lib.hid (HZ.out.symm.trans (cyc_4 HC1.out HOUT.out (by rw [HZ3.out]; exact HF.out.1 (by omega)) HZ4.out))
       go_wp2_with fail
       go_ret
       exact ⟨by rw [HT.out]; rfl, below_on HRF.out.below (below_on HBC.out (below_on HBQ.out HB3.out))⟩
     | false =>
       go_wp2_with fail
       go_roundg (7 - 5)
       case rel => exact ⟨5, by omega, rfl, below_on HBQ.out HB3.out, fun _ => HF.out.1 (by omega), fun _ => by first | trivial | rfl, fun h => absurd h (by omega), fun h => absurd h (by omega)⟩
       case measure => have := HK.out; omega
    ·have xk : ∀ w : World, (Instr.index 81 (.agg #[.nilFunc, .nilFunc, .nilFunc, .func (.func 22) #[] #[.pointer (some ⟨g10, 0, none⟩), .pointer (some ⟨gl, 0, none⟩)], .func (.func 27) #[] #[.pointer (some ⟨g9, 0, none⟩), .pointer (some ⟨gi, 0, none⟩)], .func (.func 32) #[] #[.pointer (some ⟨g9, 0, none⟩), .pointer (some ⟨g14, 0, none⟩), .pointer (some ⟨g13, 0, none⟩)], .func (.func 35) #[] #[.pointer (some ⟨g9, 0, none⟩), .pointer (some ⟨go, 0, none⟩)]]) (.int .i64 5)).run Try.prog w = .ok (.func (.func 32) #[] #[.pointer (some ⟨g9, 0, none⟩), .pointer (some ⟨g14, 0, none⟩), .pointer (some ⟨g13, 0, none⟩)]) w := fun _ => by kernel_rfl
     have xn : ∀ w : World, (binOp .neq 37 (.func (.func 32) #[] #[.pointer (some ⟨g9, 0, none⟩), .pointer (some ⟨g14, 0, none⟩), .pointer (some ⟨g13, 0, none⟩)]) .nilFunc).run Try.prog w = .ok (.bool true) w := fun _ => by kernel_rfl
     go_wp2_with fail
     refine (HF5.out _ HBQ.out).mono ?_
     rintro e w3 ⟨rfl, hb⟩
     have HB3 := Lib.hid hb
     clear hb
     cases z5 with
     | true =>
       have HT := Lib.hid (HZ.out.symm.trans (cyc_5 HC1.out HOUT.out (by rw [HZ3.out]; exact HF.out.1 (by omega)) (by rw [HZ4.out]; exact HF.out.2.1 (by omega)) HZ5.out))
       go_wp2_with fail
       go_ret
       exact ⟨by rw [HT.out]; rfl, below_on HRF.out.below (below_on HBC.out (below_on HBQ.out HB3.out))⟩
     | false =>
       go_wp2_with fail
       go_roundg (7 - 6)
       case rel => exact ⟨6, by omega, rfl, below_on HBQ.out HB3.out, fun _ => HF.out.1 (by omega), fun _ => HF.out.2.1 (by omega), fun _ => by first | trivial | rfl, fun h => absurd h (by omega)⟩
       case measure => have := HK.out; omega
    ·have xk : ∀ w : World, (Instr.index 81 (.agg #[.nilFunc, .nilFunc, .nilFunc, .func (.func 22) #[] #[.pointer (some ⟨g10, 0, none⟩), .pointer (some ⟨gl, 0, none⟩)], .func (.func 27) #[] #[.pointer (some ⟨g9, 0, none⟩), .pointer (some ⟨gi, 0, none⟩)], .func (.func 32) #[] #[.pointer (some ⟨g9, 0, none⟩), .pointer (some ⟨g14, 0, none⟩), .pointer (some ⟨g13, 0, none⟩)], .func (.func 35) #[] #[.pointer (some ⟨g9, 0, none⟩), .pointer (some ⟨go, 0, none⟩)]]) (.int .i64 6)).run Try.prog w = .ok (.func (.func 35) #[] #[.pointer (some ⟨g9, 0, none⟩), .pointer (some ⟨go, 0, none⟩)]) w := fun _ => by kernel_rfl
     have xn : ∀ w : World, (binOp .neq 37 (.func (.func 35) #[] #[.pointer (some ⟨g9, 0, none⟩), .pointer (some ⟨go, 0, none⟩)]) .nilFunc).run Try.prog w = .ok (.bool true) w := fun _ => by kernel_rfl
     go_wp2_with fail
     refine (HF6.out _ HBQ.out).mono ?_
     rintro e w3 ⟨rfl, hb⟩
     have HB3 := Lib.hid hb
     clear hb
     cases z6 with
     | true =>
       have HT := Lib.hid (HZ.out.symm.trans (cyc_6 HC1.out HOUT.out (by rw [HZ3.out]; exact HF.out.1 (by omega)) (by rw [HZ4.out]; exact HF.out.2.1 (by omega)) (by rw [HZ5.out]; exact HF.out.2.2.1 (by omega)) HZ6.out))
       go_wp2_with fail
       go_ret
       exact ⟨by rw [HT.out]; rfl, below_on HRF.out.below (below_on HBC.out (below_on HBQ.out HB3.out))⟩
     | false =>
       go_wp2_with fail
       go_roundg (7 - 7)
       case rel => exact ⟨7, by omega, rfl, below_on HBQ.out HB3.out, fun _ => HF.out.1 (by omega), fun _ => HF.out.2.1 (by omega), fun _ => HF.out.2.2.1 (by omega), fun _ => by first | trivial | rfl⟩
       case measure => have := HK.out; omega
    ·have HT := Lib.hid (HZ.out.symm.trans (cyc_0 HC1.out HOUT.out (by rw [HZ3.out]; exact HF.out.1 (by omega)) (by rw [HZ4.out]; exact HF.out.2.1 (by omega)) (by rw [HZ5.out]; exact HF.out.2.2.1 (by omega)) (by rw [HZ6.out]; exact HF.out.2.2.2 (by omega))))
     go_wp2_with fail
     go_ret
     exact ⟨by rw [HT.out]; rfl, below_on HRF.out.below (below_on HBC.out HBQ.out)⟩
end Go.Proofs.Ythnpekbmaapgnaa
