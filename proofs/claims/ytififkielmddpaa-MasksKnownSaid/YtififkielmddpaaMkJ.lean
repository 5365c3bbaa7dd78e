/-
  Layer 08: MasksMake.
-/
import Derived.Test.YtififkielmddpaaMkH
import Derived.Test.YtififkielmddpaaCoI
import Derived.Test.YtififkielmddpaaCoV
import Derived.Test.YtififkielmddpaaTpG
namespace Go.Proofs.Ytififkielmddpaa
open Go.RowKit
set_option maxRecDepth 100000
/-- a route, a layout, wherever its rows lie -/
def Rt.er (r : Rt) : Rt := ⟨r.nm, r.sg, ⟨none, 0, r.pa.l⟩, ⟨none, 0, r.po.l⟩, ⟨none, 0, r.ov.l⟩, ⟨none, 0, r.fl.l⟩⟩
def Lay.er (L : Lay) : Lay := ⟨⟨none, 0, L.se.l⟩, ⟨none, 0, L.po.l⟩, ⟨none, 0, L.sg.l⟩, ⟨none, 0, L.rt.l.map Rt.er⟩⟩
theorem same_er {L M : Lay} (h : SameLay L M) : M.er = L.er := by
  obtain ⟨h1, h2, h3, h4⟩ := h
  have e : ∀ l : List Rt, l.map Rt.er = (l.map rc).map (fun x => (⟨x.1, x.2.1, ⟨none, 0, x.2.2.1⟩, ⟨none, 0, x.2.2.2.1⟩, ⟨none, 0, x.2.2.2.2.1⟩, ⟨none, 0, x.2.2.2.2.2⟩⟩ : Rt)) := fun l => by rw [List.map_map]; rfl
  unfold Lay.er
  rw [h1, h2, h3, e, e, h4]
theorem may_er (L : Lay) : mayS L.er = mayS L := by
  unfold mayS Lay.er Lay.small Lay.n3 Lay.n2 Lay.n1 rtsFrom
  simp only [List.length_map, List.map_map, List.all_map]
  rfl
theorem ixF_map {p : Rt → Bool} : ∀ (l : List Rt) (k : Nat), ixF p k (l.map Rt.er) = ixF (fun r => p r.er) k l := by
  intro l
  induction l with
  | nil => intro k; rfl
  | cons y l ih =>
    intro k
    show (if p y.er = true then (k : Int) else ixF p (k + 1) (l.map Rt.er)) = (if p y.er = true then (k : Int) else ixF (fun r => p r.er) (k + 1) l)
    rw [ih]
theorem formed_er (L : Lay) (r : Rt) : formedS L.er r.er = formedS L r := rfl
theorem check_er (L : Lay) : checkS L.er = checkS L := by
  unfold checkS
  rw [may_er]
  have : badS L.er = badS L := by
    unfold badS
    show ixF (fun r => !formedS L.er r) 0 (L.rt.l.map Rt.er) = _
    rw [ixF_map]
    rfl
  rw [this]
theorem conflict_er (L : Lay) (a b : Rt) : conflictS L.er a.er b.er = conflictS L a b := by
  unfold conflictS reasonsS
  congr 2
  congr 1
  show ptsR a.er b.er 0 L.po.l = ptsR a b 0 L.po.l
  have : ∀ (l : List (BA × Int)) (k : Nat), ptsR a.er b.er k l = ptsR a b k l := by
    intro l
    induction l with
    | nil => intro k; rfl
    | cons p l ih => intro k; show _ :: ptsR a.er b.er (k + 1) l = _ :: ptsR a b (k + 1) l; rw [ih]; rfl
  exact this _ _
theorem cfS_er (L : Lay) (i k : Nat) : cfS L.er i k = cfS L i k := by
  unfold cfS
  have e : ∀ j, L.er.rt.l[j]? = (L.rt.l[j]?).map Rt.er := fun j => List.getElem?_map
  rw [e, e]
  rcases L.rt.l[i]? with _ | x <;> rcases L.rt.l[k]? with _ | y <;> first | rfl | exact conflict_er L x y
theorem tab_er (L : Lay) : tabL L.er = tabL L := by
  unfold tabL
  rw [check_er]
  have e : L.er.rt.l.length = L.rt.l.length := List.length_map _
  have : tabS L.er = tabS L := by
    unfold tabS
    rw [e]
    congr 1
    funext i
    unfold rowS
    rw [e]
    congr 1
    funext m
    rw [cfS_er]
  rw [this]
theorem same_tab {L M : Lay} (h : SameLay L M) : checkS M = checkS L ∧ tabL M = tabL L := by
  have := same_er h
  exact ⟨by rw [← check_er M, this, check_er], by rw [← tab_er M, this, tab_er]⟩
theorem mks_er (L : Lay) : mksL L.er = mksL L := by
  unfold mksL
  rw [check_er]
  have e : L.er.rt.l.length = L.rt.l.length := List.length_map _
  have : mksS L.er = mksS L := by
    unfold mksS
    rw [e]
    congr 1
    funext i
    unfold mkF
    have e2 : L.er.rt.l[i]? = (L.rt.l[i]?).map Rt.er := List.getElem?_map
    have e3 : rowS L.er i = rowS L i := by
      unfold rowS
      rw [e]
      congr 1
      funext m
      rw [cfS_er]
    rw [e2, e3]
    cases L.rt.l[i]? <;> rfl
  rw [this]
theorem lies_er (L : Lay) : liesL L.er = liesL L := by unfold liesL; rw [check_er]; rfl
theorem nums_er (L : Lay) : allL L.er = allL L ∧ ptsL L.er = ptsL L ∧ trsL L.er = trsL L := by
  have e : L.er.rt.l.length = L.rt.l.length := List.length_map _
  unfold allL ptsL trsL
  rw [check_er, e]
  exact ⟨rfl, rfl, rfl⟩
theorem same_mks {L M : Lay} (h : SameLay L M) : checkS M = checkS L ∧ mksL M = mksL L ∧ liesL M = liesL L ∧ allL M = allL L ∧ ptsL M = ptsL L ∧ trsL M = trsL L := by
  have := same_er h
  refine ⟨by rw [← check_er M, this, check_er], by rw [← mks_er M, this, mks_er], by rw [← lies_er M, this, lies_er], ?_, ?_, ?_⟩
  · rw [← (nums_er M).1, this, (nums_er L).1]
  · rw [← (nums_er M).2.1, this, (nums_er L).2.1]
  · rw [← (nums_er M).2.2, this, (nums_er L).2.2]
theorem make_same {L M : Lay} (h : SameLay L M) (W : World) (hM : LayAt W M) :
    Calls Try.prog 10 #[.agg #[M.se.v, M.po.v, M.sg.v, M.rt.v]] W fun e w' => ∃ xa xc ya yc m n, e = .returned (.tuple #[.agg #[.slice xa m xc, .slice ya n yc, .int .u64 (allL L : Int), .int .u32 (ptsL L : Int), .int .u64 (trsL L : Int)], .int .i64 (checkS L).1]) ∧ m = (mksL L).length ∧ n = (liesL L).length ∧ RowAt 6 mkC w' xa (mksL L) ∧ RowAt 1 u64C w' ya (liesL L) ∧ Below W.heap.size W w' := by
  have h1 := make_is M W hM
  obtain ⟨e1, e2, e3, e4, e5, e6⟩ := same_mks h
  rw [e1, e2, e3, e4, e5, e6] at h1
  exact h1
theorem mksL_len (L : Lay) : (mksL L).length ≤ 64 ∧ (liesL L).length ≤ 32 := by
  unfold mksL liesL
  by_cases h : (checkS L).1 = 0
  · rw [if_pos h, if_pos h, mks_len]
    unfold liesS
    rw [List.length_map]
    have := mayS_small (cs_zero h)
    omega
  · rw [if_neg h, if_neg h]
    exact ⟨Nat.zero_le _, Nat.zero_le _⟩
theorem lay_ownK {w : World} {L : Lay} {n1 n2 n3 n4 g : Nat} (h : w.heap[g]? = some (.cells #[.slice L.se.a n1 L.se.c, .slice L.po.a n2 L.po.c, .slice L.sg.a n3 L.sg.c, .slice L.rt.a n4 L.rt.c] 27)) : w.cell? ⟨g, 0, none⟩ = some (.slice L.se.a n1 L.se.c) ∧ w.cell? ⟨g, 1, none⟩ = some (.slice L.po.a n2 L.po.c) ∧ w.cell? ⟨g, 2, none⟩ = some (.slice L.sg.a n3 L.sg.c) ∧ w.cell? ⟨g, 3, none⟩ = some (.slice L.rt.a n4 L.rt.c) := k_box h
attribute [local irreducible] Sl.v checkS weightS mksL liesL allL ptsL trsL tabL mayS rowS hasBit pw
set_option maxHeartbeats 8000000 in
theorem masksMake_is (L : Lay) (hzz : LayZ L) (w : World) (hL : LayAt w L) : Calls Try.prog 3 #[.agg #[L.se.v, L.po.v, L.sg.v, L.rt.v]] w fun e w' => e = .returned (.bool true) ∧ Below w.heap.size w w' := by
  obtain ⟨n1, hn1⟩ : ∃ n, L.se.l.length = n := ⟨_, rfl⟩
  obtain ⟨n2, hn2⟩ : ∃ n, L.po.l.length = n := ⟨_, rfl⟩
  obtain ⟨n3, hn3⟩ : ∃ n, L.sg.l.length = n := ⟨_, rfl⟩
  obtain ⟨n4, hn4⟩ : ∃ n, L.rt.l.length = n := ⟨_, rfl⟩
  have b0 := below1 w (.cells #[.slice L.se.a n1 L.se.c, .slice L.po.a n2 L.po.c, .slice L.sg.a n3 L.sg.c, .slice L.rt.a n4 L.rt.c] 27)
  have hq := alloc1 w (.cells #[.slice L.se.a n1 L.se.c, .slice L.po.a n2 L.po.c, .slice L.sg.a n3 L.sg.c, .slice L.rt.a n4 L.rt.c] 27) (Below.refl _ _)
  obtain ⟨W, hW⟩ : ∃ W, W = w.alloc (.cells #[.slice L.se.a n1 L.se.c, .slice L.po.a n2 L.po.c, .slice L.sg.a n3 L.sg.c, .slice L.rt.a n4 L.rt.c] 27) := ⟨_, rfl⟩
  rw [← hW] at b0 hq
  have hLW := hL.below b0
  obtain ⟨z, hz⟩ : ∃ z, weightS 1000 L = z := ⟨_, rfl⟩
  have KW : Hid (∀ w', Below W.heap.size W w' → Calls Try.prog 7 #[.agg #[L.se.v, L.po.v, L.sg.v, L.rt.v], .int .i64 1000] w' fun e w'' => e = .returned (.int .i64 z) ∧ Below W.heap.size W w'') := Lib.hid (fun w' hw' => hz ▸ (weight_is 1000 L w' (hLW.below hw')).mono (fun _ _ h => ⟨h.1, below_on hw' h.2⟩))
  have KWO : Hid (∀ w', Below W.heap.size W w' → Calls Try.prog 8 #[] w' fun e w'' => e = .returned (.bool true) ∧ Below W.heap.size W w'') := Lib.hid (fun w' hw' => (works_is w').mono (fun _ _ h => ⟨h.1, below_on hw' h.2⟩))
  obtain ⟨c, hc1⟩ : ∃ c, (checkS L).1 = c := ⟨_, rfl⟩
  obtain ⟨R, hR⟩ : ∃ c, mksL L = c := ⟨_, rfl⟩
  obtain ⟨Z, hZ⟩ : ∃ c, liesL L = c := ⟨_, rfl⟩
  obtain ⟨al, hal⟩ : ∃ c, allL L = c := ⟨_, rfl⟩
  obtain ⟨pt, hpt⟩ : ∃ c, ptsL L = c := ⟨_, rfl⟩
  obtain ⟨tr, htr⟩ : ∃ c, trsL L = c := ⟨_, rfl⟩
  have KR : Hid (∀ w', Below W.heap.size W w' → Calls Try.prog 11 #[.agg #[L.se.v, L.po.v, L.sg.v, L.rt.v]] w' fun e w'' => ∃ xa xc ya yc m n, e = .returned (.tuple #[.agg #[.slice xa m xc, .slice ya n yc, .int .u64 (al : Int), .int .u32 (pt : Int), .int .u64 (tr : Int)], .int .i64 c]) ∧ m = R.length ∧ n = Z.length ∧ RowAt 6 mkC w'' xa R ∧ RowAt 1 u64C w'' ya Z ∧ Below w'.heap.size w' w'') := Lib.hid (fun w' hw' => by
    have h := rmake_is L w' (hLW.below hw')
    rw [hc1, hR, hZ, hal, hpt, htr] at h
    exact h)
  have KMK : Hid (∀ M, SameLay L M → ∀ w', LayAt w' M → Calls Try.prog 10 #[.agg #[M.se.v, M.po.v, M.sg.v, M.rt.v]] w' fun e w'' => ∃ xa xc ya yc m n, e = .returned (.tuple #[.agg #[.slice xa m xc, .slice ya n yc, .int .u64 (al : Int), .int .u32 (pt : Int), .int .u64 (tr : Int)], .int .i64 c]) ∧ m = R.length ∧ n = Z.length ∧ RowAt 6 mkC w'' xa R ∧ RowAt 1 u64C w'' ya Z ∧ Below w'.heap.size w' w'') := Lib.hid (fun M hs w' hM => by
    have h := make_same hs w' hM
    rw [hc1, hR, hZ, hal, hpt, htr] at h
    exact h)
  have HLEN : Hid (R.length ≤ 64 ∧ Z.length ≤ 32) := Lib.hid (by rw [← hR, ← hZ]; exact mksL_len L)
  have HNS := Lib.hid (And.intro hn1 (And.intro hn2 hn3))
  have KC : Hid (Short L → ∀ w', Below W.heap.size W w' → Calls Try.prog 9 #[.agg #[L.se.v, L.po.v, L.sg.v, L.rt.v]] w' fun e w'' => ∃ M, e = .returned (.agg #[M.se.v, M.po.v, M.sg.v, M.rt.v]) ∧ LayX (fun b => b < w'.heap.size) w'' M ∧ SameLay L M ∧ Below w'.heap.size w' w'') := Lib.hid (fun hs w' hw' => copy_is L w' (hLW.below hw') (by have := hs.se; omega) (by have := hs.po; omega) (by have := hs.sg; omega) (by have := hs.rt; omega) (fun r hr => by have := hs.el r hr; omega))
  clear hc1 hR hZ hal hpt htr
  have HZ := Lib.hid hz
  have HN4 := Lib.hid hn4
  rw [slv hn1, slv hn2, slv hn3, slv hn4] at KW KR KC
  rw [slv hn1, slv hn2, slv hn3, slv hn4]
  have HW := Lib.hid hW
  have HB0 := Lib.hid b0
  have HQ := Lib.hid hq
  have HLW := Lib.hid hLW
  clear hn1 hn2 hn3 hn4 hLW hW b0 hq hz
  obtain ⟨gl, hgl⟩ : ∃ g, g = w.heap.size := ⟨_, rfl⟩
  have HGL := Lib.hid hgl
  rw [← hgl] at HQ
  clear hgl
  go_enter Try.func3, Try.ntmps3
  go_wp2_with fail
  rw [← HW.out, ← HGL.out]
  refine (KW.out _ (Below.refl _ _)).mono ?_
  rintro e w1 ⟨rfl, hb⟩
  have HB1 := Lib.hid hb
  clear hb
  by_cases hz : 1000 < z
  · go_wp2_with fail
    refine (KWO.out _ HB1.out).mono ?_
    rintro e w2 ⟨rfl, hb⟩
    have HB2 := Lib.hid (below_on HB0.out hb)
    clear hb
    go_wp2_with fail
    go_ret
    exact ⟨rfl, HB2.out⟩
  have HSH : Hid (Short L) := Lib.hid (weight_short hzz (by rw [HZ.out]; omega))
  clear hzz
  obtain ⟨l0, l1, l2, l3⟩ := lay_ownK (blk_keep HB1.out HQ.out)
  go_wp2_with fail
  clear l0 l1 l2 l3
  refine (KC.out HSH.out _ HB1.out).mono ?_
  rintro e w2 ⟨M, rfl, hx, hsm, hb⟩
  have HB2 := Lib.hid (below_on HB1.out hb)
  have HMA := Lib.hid hx.at_
  have HSM := Lib.hid hsm
  have hm1 : M.se.l.length = n1 := by rw [hsm.se]; exact HNS.out.1
  have hm2 : M.po.l.length = n2 := by rw [hsm.po]; exact HNS.out.2.1
  have hm3 : M.sg.l.length = n3 := by rw [hsm.sg]; exact HNS.out.2.2
  have hm4 : M.rt.l.length = n4 := by rw [← HN4.out]; have := congrArg List.length hsm.rt; simpa using this
  have KT : Hid (∀ w', Below w2.heap.size w2 w' → Calls Try.prog 10 #[.agg #[M.se.v, M.po.v, M.sg.v, M.rt.v]] w' fun e w'' => ∃ xa xc ya yc m n, e = .returned (.tuple #[.agg #[.slice xa m xc, .slice ya n yc, .int .u64 (al : Int), .int .u32 (pt : Int), .int .u64 (tr : Int)], .int .i64 c]) ∧ m = R.length ∧ n = Z.length ∧ RowAt 6 mkC w'' xa R ∧ RowAt 1 u64C w'' ya Z ∧ Below w'.heap.size w' w'') := Lib.hid (fun w' hw' => KMK.out M HSM.out w' (HMA.out.below hw'))
  have KS : Hid (∀ w', Below w2.heap.size w2 w' → Calls Try.prog 13 #[.agg #[M.se.v, M.po.v, M.sg.v, M.rt.v], .agg #[L.se.v, L.po.v, L.sg.v, L.rt.v]] w' fun e w'' => e = .returned (.bool true) ∧ Below w'.heap.size w' w'') := Lib.hid (fun w' hw' => samelay_to M L HSM.out w' (HMA.out.below hw') (HLW.out.below (below_on HB2.out hw')))
  rw [slv hm1, slv hm2, slv hm3, slv hm4] at KT KS ⊢
  rw [slv HNS.out.1, slv HNS.out.2.1, slv HNS.out.2.2, slv HN4.out] at KS
  clear hb hx hsm hm1 hm2 hm3 hm4 HB1 KC KMK
  go_upto_region 4 with fail
  have hbx := below1 w2 (.cells #[.slice M.se.a n1 M.se.c, .slice M.po.a n2 M.po.c, .slice M.sg.a n3 M.sg.c, .slice M.rt.a n4 M.rt.c] 27)
  have hqx := alloc1 w2 (.cells #[.slice M.se.a n1 M.se.c, .slice M.po.a n2 M.po.c, .slice M.sg.a n3 M.sg.c, .slice M.rt.a n4 M.rt.c] 27) (Below.refl _ _)
  obtain ⟨w3, hw3⟩ : ∃ W, W = w2.alloc (.cells #[.slice M.se.a n1 M.se.c, .slice M.po.a n2 M.po.c, .slice M.sg.a n3 M.sg.c, .slice M.rt.a n4 M.rt.c] 27) := ⟨_, rfl⟩
  rw [← hw3] at hbx hqx ⊢
  obtain ⟨gx, hgx⟩ : ∃ g, g = w2.heap.size := ⟨_, rfl⟩
  rw [← hgx] at hqx ⊢
  have HX3 := Lib.hid hqx
  have HB3 := Lib.hid hbx
  clear hbx hqx hw3 hgx
  obtain ⟨m0, m1, m2, m3⟩ := k_box HX3.out
  go_wp2_with fail
  clear m0 m1 m2 m3
  refine (KT.out _ HB3.out).mono ?_
  rintro e w4 ⟨xa, xc, ya, yc, m, n, rfl, hm, hn, hr1, hz1, hb⟩
  have HB4 := Lib.hid (below_on HB3.out hb)
  have HX4 := Lib.hid (blk_keep hb HX3.out)
  have HR1 := Lib.hid hr1
  have HZ1 := Lib.hid hz1
  have HMN := Lib.hid (And.intro hm hn)
  clear hb hm hn hr1 hz1 HX3 HB3 KT
  go_upto_region 5 with fail
  have hbx := below1 w4 (.cells #[.slice xa m xc, .slice ya n yc, .int .u64 (al : Int), .int .u32 (pt : Int), .int .u64 (tr : Int)] 36)
  have hqx := alloc1 w4 (.cells #[.slice xa m xc, .slice ya n yc, .int .u64 (al : Int), .int .u32 (pt : Int), .int .u64 (tr : Int)] 36) (Below.refl _ _)
  obtain ⟨w5, hw5⟩ : ∃ W, W = w4.alloc (.cells #[.slice xa m xc, .slice ya n yc, .int .u64 (al : Int), .int .u32 (pt : Int), .int .u64 (tr : Int)] 36) := ⟨_, rfl⟩
  rw [← hw5] at hbx hqx ⊢
  obtain ⟨ga, hga⟩ : ∃ g, g = w4.heap.size := ⟨_, rfl⟩
  rw [← hga] at hqx ⊢
  have HA5 := Lib.hid hqx
  have HB5 := Lib.hid (below_on HB4.out hbx)
  have HX5 := Lib.hid (blk_keep hbx HX4.out)
  have HR15 := Lib.hid (HR1.out.below hbx)
  have HZ15 := Lib.hid (HZ1.out.below hbx)
  have HQ5 := Lib.hid (blk_keep (below_on HB2.out HB5.out) HQ.out)
  clear hbx hqx hw5 hga HX4 HR1 HZ1
  obtain ⟨l0, l1, l2, l3⟩ := lay_ownK HQ5.out
  go_wp2_with fail
  clear l0 l1 l2 l3
  refine (KR.out _ (below_on HB2.out HB5.out)).mono ?_
  rintro e w6 ⟨ua, uc, va, vc, m', n', rfl, hm, hn, hr1, hz1, hb⟩
  obtain rfl : m = m' := by rw [HMN.out.1, hm]
  obtain rfl : n = n' := by rw [HMN.out.2, hn]
  have HB6 := Lib.hid (below_on HB5.out hb)
  have HX6 := Lib.hid (blk_keep hb HX5.out)
  have HA6 := Lib.hid (blk_keep hb HA5.out)
  have HQ6 := Lib.hid (blk_keep hb HQ5.out)
  have HR16 := Lib.hid (HR15.out.below hb)
  have HZ16 := Lib.hid (HZ15.out.below hb)
  have HR2 := Lib.hid hr1
  have HZ2 := Lib.hid hz1
  clear hb hm hn hr1 hz1 HX5 HA5 HQ5 HR15 HZ15 KR
  go_upto_region 6 with fail
  have hbx := below1 w6 (.cells #[.slice ua m uc, .slice va n vc, .int .u64 (al : Int), .int .u32 (pt : Int), .int .u64 (tr : Int)] 42)
  have hqx := alloc1 w6 (.cells #[.slice ua m uc, .slice va n vc, .int .u64 (al : Int), .int .u32 (pt : Int), .int .u64 (tr : Int)] 42) (Below.refl _ _)
  obtain ⟨w7, hw7⟩ : ∃ W, W = w6.alloc (.cells #[.slice ua m uc, .slice va n vc, .int .u64 (al : Int), .int .u32 (pt : Int), .int .u64 (tr : Int)] 42) := ⟨_, rfl⟩
  rw [← hw7] at hbx hqx ⊢
  obtain ⟨gb, hgb⟩ : ∃ g, g = w6.heap.size := ⟨_, rfl⟩
  rw [← hgb] at hqx ⊢
  have HM7 := Lib.hid hqx
  have HB7 := Lib.hid (below_on HB6.out hbx)
  have HX7 := Lib.hid (blk_keep hbx HX6.out)
  have HA7 := Lib.hid (blk_keep hbx HA6.out)
  have HQ7 := Lib.hid (blk_keep hbx HQ6.out)
  have KSM : Hid (∀ w', Below w7.heap.size w7 w' → Calls Try.prog 12 #[.agg #[.slice xa m xc, .slice ya n yc, .int .u64 (al : Int), .int .u32 (pt : Int), .int .u64 (tr : Int)], .agg #[.slice ua m uc, .slice va n vc, .int .u64 (al : Int), .int .u32 (pt : Int), .int .u64 (tr : Int)]] w' fun e w'' => e = .returned (.bool true) ∧ Below w'.heap.size w' w'') := Lib.hid (fun w' hw' => same_is R Z xa ua ya va m n xc uc yc vc al pt tr (by have := HLEN.out.1; have := HMN.out.1; omega) (by have := HLEN.out.2; have := HMN.out.2; omega) HMN.out.1.symm HMN.out.2.symm w' (HR16.out.below (below_on hbx hw')) (HR2.out.below (below_on hbx hw')) (HZ16.out.below (below_on hbx hw')) (HZ2.out.below (below_on hbx hw')))
  clear hbx hqx hw7 hgb HX6 HA6 HQ6 HR16 HR2 HZ16 HZ2
  have y0 := blk_cell HA7.out 0 _ rfl; have y1 := blk_cell HA7.out 1 _ rfl; have y2 := blk_cell HA7.out 2 _ rfl; have y3 := blk_cell HA7.out 3 _ rfl; have y4 := blk_cell HA7.out 4 _ rfl
  have u0 := blk_cell HM7.out 0 _ rfl; have u1 := blk_cell HM7.out 1 _ rfl; have u2 := blk_cell HM7.out 2 _ rfl; have u3 := blk_cell HM7.out 3 _ rfl; have u4 := blk_cell HM7.out 4 _ rfl
  have ec : (c == c) = true := by simp
  go_wp2_with fail
  clear y0 u0 y1 u1 y2 u2 y3 u3 y4 u4
  refine (KSM.out _ (Below.refl _ _)).mono ?_
  rintro e w8 ⟨rfl, hb⟩
  have HB8 := Lib.hid (below_on HB7.out hb)
  obtain ⟨l0, l1, l2, l3⟩ := lay_ownK (blk_keep hb HQ7.out)
  obtain ⟨m0, m1, m2, m3⟩ := k_box (blk_keep hb HX7.out)
  clear hb
  go_wp2_with fail
  clear l0 l1 l2 l3 m0 m1 m2 m3
  refine (KS.out _ HB8.out).mono ?_
  rintro e w9 ⟨rfl, hb⟩
  have HB9 := Lib.hid (below_on HB8.out hb)
  clear hb
  go_wp2_with fail
  refine (KWO.out _ (below_on HB2.out HB9.out)).mono ?_
  rintro e w10 ⟨rfl, hb⟩
  have HBE := Lib.hid (below_on HB0.out hb)
  clear hb
  go_wp2_with fail
  go_ret
  exact ⟨rfl, HBE.out⟩
theorem walk_MasksMake (v0 : Array Value)  (w : World) (_s0 : v0.size = Try.prog.cellsOf 27) (w0 : RdZ Try.prog w 27 v0.toList)  :
    Calls Try.prog 3 #[.agg v0] w fun e w' => e = .returned (.bool true) ∧ Below w.heap.size w w' := by
  obtain ⟨L, hv, hL, hz⟩ := layz_of w0
  obtain rfl : v0 = #[L.se.v, L.po.v, L.sg.v, L.rt.v] := by apply Array.toList_inj.1; rw [hv]
  exact masksMake_is L hz w hL
end Go.Proofs.Ytififkielmddpaa
