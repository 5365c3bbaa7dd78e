/-
  The statement ConflictTable: the plain law, the walk.
-/
import Derived.Test.YthlnnlemnbpndaaCoQ
import Derived.Test.YthlnnlemnbpndaaCoN
import Derived.Test.YthlnnlemnbpndaaCoI
import Derived.Test.YthlnnlemnbpndaaCoV
import Derived.Test.YthlnnlemnbpndaaTpG
namespace Go.Proofs.Ythlnnlemnbpndaa
open Go.RowKit
set_option maxRecDepth 100000
/-- a route, a layout, wherever its rows lie -/
def Rt.er (r : Rt) : Rt := ⟨r.nm, r.sg, ⟨none, 0, r.pa.l⟩, ⟨none, 0, r.po.l⟩, ⟨none, 0, r.ov.l⟩, ⟨none, 0, r.fl.l⟩⟩
def Lay.er (L : Lay) : Lay := ⟨⟨none, 0, L.se.l⟩, ⟨none, 0, L.po.l⟩, ⟨none, 0, L.sg.l⟩, ⟨none, 0, L.rt.l.map Rt.er⟩⟩
theorem same_er {L M : Lay} (h : SameLay L M) : M.er = L.er := by
  obtain ⟨h1, h2, h3, h4⟩ := h
  have e : ∀ l : List Rt, l.map Rt.er = (l.map rc).map (fun x => (⟨x.1, x.2.1, ⟨none, 0, x.2.2.1⟩, ⟨none, 0, x.2.2.2.1⟩, ⟨none, 0, x.2.2.2.2.1⟩, ⟨none, 0, x.2.2.2.2.2⟩⟩ : Rt)) := fun l => by rw [List.map_map]; rfl
  unfold Lay.er
  rw [h1, h2, h3, e, e, h4]
theorem may_er (L : Lay) : mayS L.er = mayS L := by
  unfold mayS Lay.er Lay.small Lay.n3 Lay.n2 Lay.n1 rtsFrom
  simp only [List.length_map, List.map_map, List.all_map]
  rfl
theorem ixF_map {p : Rt → Bool} : ∀ (l : List Rt) (k : Nat), ixF p k (l.map Rt.er) = ixF (fun r => p r.er) k l := by
  intro l
  induction l with
  | nil => intro k; rfl
  | cons y l ih =>
    intro k
    show (if p y.er = true then (k : Int) else ixF p (k + 1) (l.map Rt.er)) = (if p y.er = true then (k : Int) else ixF (fun r => p r.er) (k + 1) l)
    rw [ih]
theorem formed_er (L : Lay) (r : Rt) : formedS L.er r.er = formedS L r := rfl
theorem check_er (L : Lay) : checkS L.er = checkS L := by
  unfold checkS
  rw [may_er]
  have : badS L.er = badS L := by
    unfold badS
    show ixF (fun r => !formedS L.er r) 0 (L.rt.l.map Rt.er) = _
    rw [ixF_map]
    rfl
  rw [this]
theorem conflict_er (L : Lay) (a b : Rt) : conflictS L.er a.er b.er = conflictS L a b := by
  unfold conflictS reasonsS
  congr 2
  congr 1
  show ptsR a.er b.er 0 L.po.l = ptsR a b 0 L.po.l
  have : ∀ (l : List (BA × Int)) (k : Nat), ptsR a.er b.er k l = ptsR a b k l := by
    intro l
    induction l with
    | nil => intro k; rfl
    | cons p l ih => intro k; show _ :: ptsR a.er b.er (k + 1) l = _ :: ptsR a b (k + 1) l; rw [ih]; rfl
  exact this _ _
theorem cfS_er (L : Lay) (i k : Nat) : cfS L.er i k = cfS L i k := by
  unfold cfS
  have e : ∀ j, L.er.rt.l[j]? = (L.rt.l[j]?).map Rt.er := fun j => List.getElem?_map
  rw [e, e]
  rcases L.rt.l[i]? with _ | x <;> rcases L.rt.l[k]? with _ | y <;> first | rfl | exact conflict_er L x y
theorem tab_er (L : Lay) : tabL L.er = tabL L := by
  unfold tabL
  rw [check_er]
  have e : L.er.rt.l.length = L.rt.l.length := List.length_map _
  have : tabS L.er = tabS L := by
    unfold tabS
    rw [e]
    congr 1
    funext i
    unfold rowS
    rw [e]
    congr 1
    funext m
    rw [cfS_er]
  rw [this]
theorem same_tab {L M : Lay} (h : SameLay L M) : checkS M = checkS L ∧ tabL M = tabL L := by
  have := same_er h
  exact ⟨by rw [← check_er M, this, check_er], by rw [← tab_er M, this, tab_er]⟩
attribute [local irreducible] Sl.v checkS weightS pairS cofL tabL mayS tabS rowS hasBit pw
theorem row64 {a : Option Addr} {c : Nat} {l : List Nat} {w : World} {k : Nat} {y : Nat} (h : SlAt 1 u64C w ⟨a, c, l⟩) (hk : l[k]? = some y) : ∃ b off, a = some ⟨b, off, none⟩ ∧ w.cell? ⟨b, off + k, none⟩ = some (.int .u64 (y : Int)) := by
  rcases h.row with hnil | ⟨b, off, ha, hc⟩
  · have : l = [] := hnil
    rw [this] at hk; simp at hk
  · have := hc k y hk 0 _ rfl
    rw [Nat.mul_one, Nat.add_zero] at this
    exact ⟨b, off, ha, this⟩
theorem table_same {L M : Lay} (h : SameLay L M) {c : Int} (hc : (checkS L).1 = c) (W : World) (hM : LayAt W M) :
    Calls Try.prog 10 #[.agg #[M.se.v, M.po.v, M.sg.v, M.rt.v]] W fun e w' => ∃ a m q, e = .returned (.tuple #[.slice a m q, .int .i64 c]) ∧ m = (tabL L).length ∧ SlAt 1 u64C w' ⟨a, q, tabL L⟩ ∧ Below W.heap.size W w' := by
  have h1 := table_is M W hM
  rw [(same_tab h).1, (same_tab h).2, hc] at h1
  exact h1
set_option maxHeartbeats 8000000 in
theorem conflictTable_is (L : Lay) (hzz : LayZ L) (w : World) (hL : LayAt w L) : Calls Try.prog 3 #[.agg #[L.se.v, L.po.v, L.sg.v, L.rt.v]] w fun e w' => e = .returned (.bool true) ∧ Below w.heap.size w w' := by
  obtain ⟨n1, hn1⟩ : ∃ n, L.se.l.length = n := ⟨_, rfl⟩
  obtain ⟨n2, hn2⟩ : ∃ n, L.po.l.length = n := ⟨_, rfl⟩
  obtain ⟨n3, hn3⟩ : ∃ n, L.sg.l.length = n := ⟨_, rfl⟩
  obtain ⟨n4, hn4⟩ : ∃ n, L.rt.l.length = n := ⟨_, rfl⟩
  have b0 := below1 w (.cells #[.slice L.se.a n1 L.se.c, .slice L.po.a n2 L.po.c, .slice L.sg.a n3 L.sg.c, .slice L.rt.a n4 L.rt.c] 27)
  have hq := alloc1 w (.cells #[.slice L.se.a n1 L.se.c, .slice L.po.a n2 L.po.c, .slice L.sg.a n3 L.sg.c, .slice L.rt.a n4 L.rt.c] 27) (Below.refl _ _)
  obtain ⟨W, hW⟩ : ∃ W, W = w.alloc (.cells #[.slice L.se.a n1 L.se.c, .slice L.po.a n2 L.po.c, .slice L.sg.a n3 L.sg.c, .slice L.rt.a n4 L.rt.c] 27) := ⟨_, rfl⟩
  rw [← hW] at b0 hq
  have hLW := hL.below b0
  obtain ⟨z, hz⟩ : ∃ z, weightS 1000 L = z := ⟨_, rfl⟩
  have KW : Hid (∀ w', Below W.heap.size W w' → Calls Try.prog 7 #[.agg #[L.se.v, L.po.v, L.sg.v, L.rt.v], .int .i64 1000] w' fun e w'' => e = .returned (.int .i64 z) ∧ Below W.heap.size W w'') := Lib.hid (fun w' hw' => hz ▸ (weight_is 1000 L w' (hLW.below hw')).mono (fun _ _ h => ⟨h.1, below_on hw' h.2⟩))
  have KWO : Hid (∀ w', Below W.heap.size W w' → Calls Try.prog 8 #[] w' fun e w'' => e = .returned (.bool true) ∧ Below W.heap.size W w'') := Lib.hid (fun w' hw' => (works_is w').mono (fun _ _ h => ⟨h.1, below_on hw' h.2⟩))
  obtain ⟨c, hc1⟩ : ∃ c, (checkS L).1 = c := ⟨_, rfl⟩
  have KR : Hid (∀ w', Below W.heap.size W w' → Calls Try.prog 11 #[.agg #[L.se.v, L.po.v, L.sg.v, L.rt.v]] w' fun e w'' => ∃ a m q, e = .returned (.tuple #[.slice a m q, .int .i64 c]) ∧ m = (tabL L).length ∧ SlAt 1 u64C w'' ⟨a, q, tabL L⟩ ∧ Below w'.heap.size w' w'') := Lib.hid (fun w' hw' => hc1 ▸ rtable_is L w' (hLW.below hw'))
  have KC : Hid (Short L → ∀ w', Below W.heap.size W w' → Calls Try.prog 9 #[.agg #[L.se.v, L.po.v, L.sg.v, L.rt.v]] w' fun e w'' => ∃ M, e = .returned (.agg #[M.se.v, M.po.v, M.sg.v, M.rt.v]) ∧ LayX (fun b => b < w'.heap.size) w'' M ∧ SameLay L M ∧ Below w'.heap.size w' w'') := Lib.hid (fun hs w' hw' => copy_is L w' (hLW.below hw') (by have := hs.se; omega) (by have := hs.po; omega) (by have := hs.sg; omega) (by have := hs.rt; omega) (fun r hr => by have := hs.el r hr; omega))
  have HC1 := Lib.hid hc1
  clear hc1
  have HZ := Lib.hid hz
  have HN4 := Lib.hid hn4
  have HNS := Lib.hid (And.intro hn1 (And.intro hn2 hn3))
  rw [slv hn1, slv hn2, slv hn3, slv hn4] at KW KR KC
  rw [slv hn1, slv hn2, slv hn3, slv hn4]
  have HW := Lib.hid hW
  have HB0 := Lib.hid b0
  have HQ := Lib.hid hq
  have HLW := Lib.hid hLW
  clear hn1 hn2 hn3 hn4 hLW hW b0 hq hz
  obtain ⟨gl, hgl⟩ : ∃ g, g = w.heap.size := ⟨_, rfl⟩
  have HGL := Lib.hid hgl
  rw [← hgl] at HQ
  clear hgl
  go_enter Try.func3, Try.ntmps3
  go_wp2_with fail
  rw [← HW.out, ← HGL.out]
  refine (KW.out _ (Below.refl _ _)).mono ?_
  rintro e w1 ⟨rfl, hb⟩
  have HB1 := Lib.hid hb
  clear hb
  by_cases hz : 1000 < z
  · go_wp2_with fail
    refine (KWO.out _ HB1.out).mono ?_
    rintro e w2 ⟨rfl, hb⟩
    have HB2 := Lib.hid (below_on HB0.out hb)
    clear hb
    go_wp2_with fail
    go_ret
    exact ⟨rfl, HB2.out⟩
  have HSH : Hid (Short L) := Lib.hid (weight_short hzz (by rw [HZ.out]; omega))
  clear hzz
  obtain ⟨l0, l1, l2, l3⟩ := lay_own (blk_keep HB1.out HQ.out)
  go_wp2_with fail
  clear l0 l1 l2 l3
  refine (KC.out HSH.out _ HB1.out).mono ?_
  rintro e w2 ⟨M, rfl, hx, hsm, hb⟩
  have HB2 := Lib.hid (below_on HB1.out hb)
  have HMA := Lib.hid hx.at_
  have HSM := Lib.hid hsm
  have hm1 : M.se.l.length = n1 := by rw [hsm.se]; exact HNS.out.1
  have hm2 : M.po.l.length = n2 := by rw [hsm.po]; exact HNS.out.2.1
  have hm3 : M.sg.l.length = n3 := by rw [hsm.sg]; exact HNS.out.2.2
  have hm4 : M.rt.l.length = n4 := by rw [← HN4.out]; have := congrArg List.length hsm.rt; simpa using this
  have KT : Hid (∀ w', Below w2.heap.size w2 w' → Calls Try.prog 10 #[.agg #[M.se.v, M.po.v, M.sg.v, M.rt.v]] w' fun e w'' => ∃ a m q, e = .returned (.tuple #[.slice a m q, .int .i64 c]) ∧ m = (tabL L).length ∧ SlAt 1 u64C w'' ⟨a, q, tabL L⟩ ∧ Below w'.heap.size w' w'') := Lib.hid (fun w' hw' => table_same HSM.out HC1.out w' (HMA.out.below hw'))
  have KS : Hid (∀ w', Below w2.heap.size w2 w' → Calls Try.prog 12 #[.agg #[M.se.v, M.po.v, M.sg.v, M.rt.v], .agg #[L.se.v, L.po.v, L.sg.v, L.rt.v]] w' fun e w'' => e = .returned (.bool true) ∧ Below w'.heap.size w' w'') := Lib.hid (fun w' hw' => samelay_to M L HSM.out w' (HMA.out.below hw') (HLW.out.below (below_on HB2.out hw')))
  rw [slv hm1, slv hm2, slv hm3, slv hm4] at KT KS ⊢
  rw [slv HNS.out.1, slv HNS.out.2.1, slv HNS.out.2.2, slv HN4.out] at KS
  clear hb hx hsm hm1 hm2 hm3 hm4 HB1 KC
  go_upto_region 4 with fail
  have hbx := below1 w2 (.cells #[.slice M.se.a n1 M.se.c, .slice M.po.a n2 M.po.c, .slice M.sg.a n3 M.sg.c, .slice M.rt.a n4 M.rt.c] 27)
  have hqx := alloc1 w2 (.cells #[.slice M.se.a n1 M.se.c, .slice M.po.a n2 M.po.c, .slice M.sg.a n3 M.sg.c, .slice M.rt.a n4 M.rt.c] 27) (Below.refl _ _)
  obtain ⟨w3, hw3⟩ : ∃ W, W = w2.alloc (.cells #[.slice M.se.a n1 M.se.c, .slice M.po.a n2 M.po.c, .slice M.sg.a n3 M.sg.c, .slice M.rt.a n4 M.rt.c] 27) := ⟨_, rfl⟩
  rw [← hw3] at hbx hqx ⊢
  obtain ⟨gx, hgx⟩ : ∃ g, g = w2.heap.size := ⟨_, rfl⟩
  rw [← hgx] at hqx ⊢
  have HX3 := Lib.hid hqx
  have HB3 := Lib.hid hbx
  clear hbx hqx hw3 hgx
  obtain ⟨m0, m1, m2, m3⟩ := box4 HX3.out
  go_wp2_with fail
  clear m0 m1 m2 m3
  refine (KT.out _ HB3.out).mono ?_
  rintro e w4 ⟨ta, tm, tq, rfl, htm, hts, hb⟩
  have HB4 := Lib.hid (below_on HB3.out hb)
  have HTS := Lib.hid hts
  have HTM := Lib.hid htm
  have HX4 := Lib.hid (blk_keep hb HX3.out)
  clear hb hts htm HX3 HB3 KT
  have HQ4 := Lib.hid (blk_keep (below_on HB2.out HB4.out) HQ.out)
  obtain ⟨l0, l1, l2, l3⟩ := lay_own HQ4.out
  go_wp2_with fail
  clear l0 l1 l2 l3
  refine (KR.out _ (below_on HB2.out HB4.out)).mono ?_
  rintro e w5 ⟨ua, um, uq, rfl, hum, hus, hb⟩
  obtain rfl : tm = um := by rw [HTM.out, hum]
  have HB5 := Lib.hid (below_on HB4.out hb)
  have HTS5 := Lib.hid (HTS.out.below hb)
  have HUS := Lib.hid hus
  have HX5 := Lib.hid (blk_keep hb HX4.out)
  have HQ5 := Lib.hid (blk_keep hb HQ4.out)
  have HTL : Hid (tm ≤ 9223372036854775807) := Lib.hid (by rw [HTM.out]; exact HTS.out.lenM)
  clear hb hus hum HX4 HB4 HQ4 KR HTS
  obtain ⟨l0, l1, l2, l3⟩ := lay_own HQ5.out
  obtain ⟨m0, m1, m2, m3⟩ := box4 HX5.out
  go_wp2_with fail
  clear l0 l1 l2 l3 m0 m1 m2 m3
  refine (KS.out _ HB5.out).mono ?_
  rintro e w6 ⟨rfl, hb⟩
  have HB6 := Lib.hid (below_on HB5.out hb)
  have HTS6 := Lib.hid (HTS5.out.below hb)
  have HUS6 := Lib.hid (HUS.out.below hb)
  clear hb HTS5 HUS HX5 HQ5 HB5 KS
  go_upto_region 9 with fail
  go_loopg [8] tm (fun g j wr => ∃ k : Nat, k + g = tm ∧ j = .int .i64 (k : Int) ∧ Below w6.heap.size w6 wr)
  case atStart => exact ⟨0, by omega, rfl, Below.refl _ _⟩
  case round =>
    obtain ⟨k, hk, rfl, hb⟩ := hrel
    have HB := Lib.hid hb
    have HK := Lib.hid hk
    clear hb hk
    by_cases hlt : k < tm
    · have d1 : (0 : Int) ≤ k := by omega
      have d2 : (k : Int) < tm := by omega
      have e1 := wsuccM hlt HTL.out
      obtain ⟨y, hy⟩ : ∃ y, (tabL L)[k]? = some y := ⟨_, List.getElem?_eq_getElem (by rw [← HTM.out]; exact hlt)⟩
      obtain ⟨b1, o1, ha1, c1⟩ := row64 (HTS6.out.below HB.out) hy
      obtain ⟨b2, o2, ha2, c2⟩ := row64 (HUS6.out.below HB.out) hy
      obtain ⟨X, hX⟩ : ∃ X, ta = X := ⟨_, rfl⟩
      obtain ⟨Y, hY⟩ : ∃ X, ua = X := ⟨_, rfl⟩
      have HXX := Lib.hid hX
      have HYY := Lib.hid hY
      rw [hX] at ha1 ⊢
      rw [hY] at ha2 ⊢
      subst ha1
      subst ha2
      have HLT := Lib.hid hlt
      clear hlt hy hX hY
      go_wp2_with fail
      go_quiet (fail)
      have HB7 := Lib.hid (below_drewN HB.out nq)
      go_wp2_with fail
      rw [← HXX.out, ← HYY.out]
      go_roundg (tm - (k + 1))
      case rel => exact ⟨k + 1, by have := HK.out; have := HLT.out; omega, by go_num, HB7.out⟩
      case measure => have := HK.out; have := HLT.out; omega
    · have hkn : ¬ k < tm := hlt
      have HKN := Lib.hid (show tm = k by have := HK.out; omega)
      clear hlt
      go_wp2_with fail
      refine (KWO.out _ (below_on HB2.out (below_on HB6.out HB.out))).mono ?_
      rintro e w8 ⟨rfl, hb⟩
      have HB8 := Lib.hid (below_on HB0.out hb)
      clear hb
      go_wp2_with fail
      go_ret
      exact ⟨rfl, HB8.out⟩
theorem walk_ConflictTable (v0 : Array Value)  (w : World) (_s0 : v0.size = Try.prog.cellsOf 27) (w0 : RdZ Try.prog w 27 v0.toList)  :
    Calls Try.prog 3 #[.agg v0] w fun e w' => e = .returned (.bool true) ∧ Below w.heap.size w w' := by
  obtain ⟨L, hv, hL, hz⟩ := layz_of w0
  obtain rfl : v0 = #[L.se.v, L.po.v, L.sg.v, L.rt.v] := by apply Array.toList_inj.1; rw [hv]
  exact conflictTable_is L hz w hL
end Go.Proofs.Ythlnnlemnbpndaa
