/-
 Layer 06: the iterator over the reasons of two routes: its contract.
-/
import Derived.Test.YtpohoannggdbjaaCoF
import Derived.Test.YtpohoannggdbjaaCoC
import Derived.Deep.RegionHeld3
namespace Go.Proofs.Ytpohoannggdbjaa
open Go.RowKit Go.Shelf
set_option maxRecDepth 100000
attribute [local go_sem] Oper.semAt_some
/-- what a round must keep: all blocks of cells, and all maps -/
structure KpA (X Y : World) : Prop where
 size : X.heap.size ≤ Y.heap.size
 same : ∀ (k : Nat) (o : Obj), X.heap[k]? = some o → (o.isCells = true ∨ o.isWalk = true) → Y.heap[k]? = some o
theorem KpA.t {X Y Z : World} (h : KpA X Y) (k : KpA Y Z) : KpA X Z := ⟨Nat.le_trans h.size k.size, fun b o hb ho => k.same b o (h.same b o hb ho) ho⟩
theorem kpA_b (W : World) (l : Nat) (o o' : Obj) (hl : W.heap[l]? = some o) (ho : o.isCells = false) (hw : o.isWalk = false) : KpA W (W.putObj l o') := by
 refine ⟨by simp, fun k p hk hp => ?_⟩
 have hne : k ≠ l := by
  intro e
  subst e
  rw [hl] at hk
  injection hk with hk
  subst hk
  rw [ho, hw] at hp
  rcases hp with hp | hp <;> cases hp
 rw [World.putObj_heap_other hne]
 exact hk
theorem kpA_below {X Y : World} (h : Below X.heap.size X Y) : KpA X Y := ⟨h.size, fun _ _ hk _ => blk_keep h hk⟩
theorem KpA.c {X Y : World} (h : KpA X Y) : KpC X Y := fun k _ _ _ hk => h.same k _ hk (.inl rfl)
theorem SlAt.kpC {α : Type} {sz : Nat} {f : α → List Value} {w w' : World} {s : Sl α} (h : SlAt sz f w s) (k : KpC w w') : SlAt sz f w' s := ⟨h.row.kpC k, h.len, h.cap, h.capNil⟩
theorem RtAt.kpC {w w' : World} {r : Rt} (h : RtAt w r) (k : KpC w w') : RtAt w' r := ⟨h.nm, h.pa.kpC k, h.po.kpC k, h.ov.kpC k, h.fl.kpC k⟩
theorem SdAt.kpA {w w' : World} {r : Nat} {f : Int → Option Bool} (h : SdAt w r f) (k : KpA w w') : SdAt w' r f := by
 obtain ⟨es, clock, K, h1, h2⟩ := h
 exact ⟨es, clock, K, k.same _ _ h1 (.inr rfl), h2⟩
theorem pf_0 {L : Lay} {a b : Rt} {D : Bool} (hD : decide (a.sg = b.sg) = D) : [D] <+: reasonsS L a b := ⟨a.tr.map (hasI b.tr) ++ ptsR a b 0 L.po.l, by unfold reasonsS; rw [hD]; rfl⟩
theorem pf_tr {L : Lay} {a b : Rt} {D : Bool} {k : Nat} {x : Int} {v : Bool} (hD : decide (a.sg = b.sg) = D) (hx : a.tr[k]? = some x) (hv : hasI b.tr x = v) : (D :: (a.tr.take k).map (hasI b.tr) ++ [v]) <+: reasonsS L a b := by
 refine ⟨(a.tr.drop (k + 1)).map (hasI b.tr) ++ ptsR a b 0 L.po.l, ?_⟩
 unfold reasonsS
 rw [hD]
 have h : (a.tr.take k).map (hasI b.tr) ++ [v] = (a.tr.take (k + 1)).map (hasI b.tr) := by rw [List.take_add_one, hx, List.map_append, ← hv]; rfl
 show D :: ((a.tr.take k).map (hasI b.tr) ++ [v] ++ ((a.tr.drop (k + 1)).map (hasI b.tr) ++ ptsR a b 0 L.po.l)) = D :: (a.tr.map (hasI b.tr) ++ ptsR a b 0 L.po.l)
 rw [h, ← List.append_assoc, ← List.map_append, List.take_append_drop]
theorem pf_pt {L : Lay} {a b : Rt} {D : Bool} {k : Nat} {B : Bool} (hD : decide (a.sg = b.sg) = D) (hp : (ptsR a b 0 L.po.l)[k]? = some B) : (D :: (a.tr.map (hasI b.tr) ++ (ptsR a b 0 L.po.l).take k) ++ [B]) <+: reasonsS L a b := by
 refine ⟨(ptsR a b 0 L.po.l).drop (k + 1), ?_⟩
 unfold reasonsS
 rw [hD]
 have h : (ptsR a b 0 L.po.l).take k ++ [B] = (ptsR a b 0 L.po.l).take (k + 1) := by rw [List.take_add_one, hp]; rfl
 show D :: ((a.tr.map (hasI b.tr) ++ (ptsR a b 0 L.po.l).take k) ++ [B] ++ (ptsR a b 0 L.po.l).drop (k + 1)) = D :: (a.tr.map (hasI b.tr) ++ ptsR a b 0 L.po.l)
 rw [List.append_assoc (a.tr.map (hasI b.tr)), h, List.append_assoc, List.take_append_drop]
/-- what the iterator reads -/
structure ReAt (V : World) (Ba Bb Bl : Nat) (L : Lay) (a b : Rt) (n2 : Nat) (P1 P3 P4 : Value) (A B : Array Value) : Prop where
 qa : V.heap[Ba]? = some (.cells A 58)
 qb : V.heap[Bb]? = some (.cells B 58)
 ql : V.heap[Bl]? = some (.cells #[P1, .slice L.po.a n2 L.po.c, P3, P4] 27)
 po : RowAt 2 ptC V L.po.a L.po.l
 a : RtAt V a
 b : RtAt V b
theorem ReAt.kpC {V V' : World} {Ba Bb Bl : Nat} {L : Lay} {a b : Rt} {n2 : Nat} {P1 P3 P4 : Value} {A B : Array Value} (h : ReAt V Ba Bb Bl L a b n2 P1 P3 P4 A B) (k : KpC V V') : ReAt V' Ba Bb Bl L a b n2 P1 P3 P4 A B := ⟨k _ _ _ _ h.qa, k _ _ _ _ h.qb, k _ _ _ _ h.ql, h.po.kpC k, h.a.kpC k, h.b.kpC k⟩
attribute [local irreducible] hasI ndAt Sl.v ptBad Rt.tr Rt.nd
set_option maxHeartbeats 4000000 in
theorem reasons_stops (n : Nat) (hn : 3 ≤ n) (Ba Bb Bl : Nat) (L : Lay) (a b : Rt) (n2 : Nat) (P1 P3 P4 : Value) (a1 a2 a3 a4 b1 b2 b3 b4 : Nat) (w : World)
 (hR0 : ReAt w Ba Bb Bl L a b n2 P1 P3 P4 #[.string a.nm, .int .i64 a.sg, .slice a.pa.a a1 a.pa.c, .slice a.po.a a2 a.po.c, .slice a.ov.a a3 a.ov.c, .slice a.fl.a a4 a.fl.c] #[.string b.nm, .int .i64 b.sg, .slice b.pa.a b1 b.pa.c, .slice b.po.a b2 b.po.c, .slice b.ov.a b3 b.ov.c, .slice b.fl.a b4 b.fl.c])
 (hl : L.po.l.length = n2) (hn2 : n2 ≤ 100000) (ha1 : a.pa.l.length = a1) (ha2 : a.po.l.length = a2) (ha3 : a.ov.l.length = a3) (ha4 : a.fl.l.length = a4) (hb1 : b.pa.l.length = b1) (hb2 : b.po.l.length = b2) (hb3 : b.ov.l.length = b3) (hb4 : b.fl.l.length = b4)
 (hla : a1 + a3 ≤ 100000 ∧ a2 + a4 ≤ 100000) (hlb : b1 + b3 ≤ 100000 ∧ b2 + b4 ≤ 100000) :
 SeqStopsK Fence.wide n Try.prog 65 #[.pointer (some ⟨Ba, 0, none⟩), .pointer (some ⟨Bb, 0, none⟩), .pointer (some ⟨Bl, 0, none⟩)] (fun m : Bool => #[.bool m]) KpA (fun ys => ys = reasonsS L a b) (fun pre => pre <+: reasonsS L a b) (reasonsS L a b).length w := fun lp J Jx W hW hAb hAbx hY h0 => by
 have HR := Lib.hid (hR0.kpC (kpC_below hW))
 have HN := Lib.hid hl
 have HN2 := Lib.hid hn2
 have HAb := Lib.hid hAb
 have HY := Lib.hid hY
 have H0 := Lib.hid h0
 have hW0 := hW
 clear hR0 hl hn2 hAb hAbx hY h0
 obtain ⟨D, hD⟩ : ∃ D, decide (a.sg = b.sg) = D := ⟨_, rfl⟩
 have hq : (a.sg == b.sg) = D := by rw [← hD]; rfl
 have HD := Lib.hid hD
 have x1 := blk_cell HR.out.qa 1 _ rfl
 have y1 := blk_cell HR.out.qb 1 _ rfl
 clear hD hW hW0
 obtain ⟨ma, hma⟩ : ∃ m, a1 + a3 = m := ⟨_, rfl⟩
 obtain ⟨mb, hmb⟩ : ∃ m, b1 + b3 = m := ⟨_, rfl⟩
 have HA := Lib.hid (And.intro ha1 (And.intro ha2 (And.intro ha3 (And.intro ha4 (And.intro hla.1 (And.intro hla.2 hma))))))
 have HB := Lib.hid (And.intro hb1 (And.intro hb2 (And.intro hb3 (And.intro hb4 (And.intro hlb.1 (And.intro hlb.2 hmb))))))
 have HTA : Hid (a.tr.length = ma ∧ ma ≤ 100000) := Lib.hid (by unfold Rt.tr; rw [List.length_append]; omega)
 have HTB : Hid (b.tr.length = mb ∧ mb ≤ 100000) := Lib.hid (by unfold Rt.tr; rw [List.length_append]; omega)
 clear ha1 ha2 ha3 ha4 hb1 hb2 hb3 hb4 hla hlb hma hmb
 have HPF : Hid ([D] <+: reasonsS L a b) := Lib.hid (pf_0 HD.out)
 refine callsIn_wide.2 ?_
 go_enter Try.func65, Try.ntmps65
 go_upto_region 0 with fail
 refine (wpIn_wide (n := n)).1 ?_
 obtain ⟨fn, tmps, assign, body, hy, hRd⟩ := HY.out [] D W H0.out (by unfold reasonsS; simp)
 gi_wp2
 refine ⟨fun _ => by omega, ?_⟩
 refine hRd.mono ?_
 clear hRd hy
 rintro e W9 (⟨rfl, hJ', hk'⟩ | ⟨rfl, hJx⟩)
 rotate_left
 ·gi_wp2
  go_wp2_with fail
  refine bodyPost_ret (results_none rfl _ _ _) rfl ?_
  exact ⟨⟨_, rfl⟩, .inr ⟨_, HPF.out, hJx⟩⟩
 have hr := HR.out.kpC hk'.c
 clear HR x1 y1 hq hk'
 have HR := Lib.hid hr
 have HJ : Hid (J [D] W9) := Lib.hid hJ'
 clear hr hJ'
 gi_wp2
 go_upto_region 1 with fail
 have HS : Hid (∀ w', Below W9.heap.size W9 w' → (w'.cell? ⟨Ba, 0, none⟩ = some (.string a.nm) ∧ w'.cell? ⟨Ba, 1, none⟩ = some (.int .i64 a.sg) ∧ w'.cell? ⟨Ba, 2, none⟩ = some (.slice a.pa.a a1 a.pa.c) ∧ w'.cell? ⟨Ba, 3, none⟩ = some (.slice a.po.a a2 a.po.c) ∧ w'.cell? ⟨Ba, 4, none⟩ = some (.slice a.ov.a a3 a.ov.c) ∧ w'.cell? ⟨Ba, 5, none⟩ = some (.slice a.fl.a a4 a.fl.c)) ∧ (w'.cell? ⟨Bb, 0, none⟩ = some (.string b.nm) ∧ w'.cell? ⟨Bb, 1, none⟩ = some (.int .i64 b.sg) ∧ w'.cell? ⟨Bb, 2, none⟩ = some (.slice b.pa.a b1 b.pa.c) ∧ w'.cell? ⟨Bb, 3, none⟩ = some (.slice b.po.a b2 b.po.c) ∧ w'.cell? ⟨Bb, 4, none⟩ = some (.slice b.ov.a b3 b.ov.c) ∧ w'.cell? ⟨Bb, 5, none⟩ = some (.slice b.fl.a b4 b.fl.c))) := Lib.hid (fun w' hw' => by
  have q := HR.out.kpC (kpC_below hw')
  exact ⟨⟨blk_cell q.qa 0 _ rfl, blk_cell q.qa 1 _ rfl, blk_cell q.qa 2 _ rfl, blk_cell q.qa 3 _ rfl, blk_cell q.qa 4 _ rfl, blk_cell q.qa 5 _ rfl⟩, ⟨blk_cell q.qb 0 _ rfl, blk_cell q.qb 1 _ rfl, blk_cell q.qb 2 _ rfl, blk_cell q.qb 3 _ rfl, blk_cell q.qb 4 _ rfl, blk_cell q.qb 5 _ rfl⟩⟩)
 have TA : Hid (∀ V, Below W9.heap.size W9 V → Calls Try.prog 14 #[.agg #[.string a.nm, .int .i64 a.sg, .slice a.pa.a a1 a.pa.c, .slice a.po.a a2 a.po.c, .slice a.ov.a a3 a.ov.c, .slice a.fl.a a4 a.fl.c]] V fun e w' => ∃ x n c, e = .returned (.slice x n c) ∧ n = ma ∧ SlAt 1 intC w' ⟨x, c, a.tr⟩ ∧ Below V.heap.size V w') := Lib.hid (fun V hV => by
  have h := track_is a V (HR.out.a.below hV) (by have := HA.out; omega)
  rw [slv HA.out.1, slv HA.out.2.1, slv HA.out.2.2.1, slv HA.out.2.2.2.1, HA.out.1, HA.out.2.2.1, HA.out.2.2.2.2.2.2] at h
  unfold Rt.tr
  exact h)
 have TB : Hid (∀ V, Below W9.heap.size W9 V → Calls Try.prog 14 #[.agg #[.string b.nm, .int .i64 b.sg, .slice b.pa.a b1 b.pa.c, .slice b.po.a b2 b.po.c, .slice b.ov.a b3 b.ov.c, .slice b.fl.a b4 b.fl.c]] V fun e w' => ∃ x n c, e = .returned (.slice x n c) ∧ n = mb ∧ SlAt 1 intC w' ⟨x, c, b.tr⟩ ∧ Below V.heap.size V w') := Lib.hid (fun V hV => by
  have h := track_is b V (HR.out.b.below hV) (by have := HB.out; omega)
  rw [slv HB.out.1, slv HB.out.2.1, slv HB.out.2.2.1, slv HB.out.2.2.2.1, HB.out.1, HB.out.2.2.1, HB.out.2.2.2.2.2.2] at h
  unfold Rt.tr
  exact h)
 go_region_held3 (fun w' => (w'.cell? ⟨Ba, 0, none⟩ = some (.string a.nm) ∧ w'.cell? ⟨Ba, 1, none⟩ = some (.int .i64 a.sg) ∧ w'.cell? ⟨Ba, 2, none⟩ = some (.slice a.pa.a a1 a.pa.c) ∧ w'.cell? ⟨Ba, 3, none⟩ = some (.slice a.po.a a2 a.po.c) ∧ w'.cell? ⟨Ba, 4, none⟩ = some (.slice a.ov.a a3 a.ov.c) ∧ w'.cell? ⟨Ba, 5, none⟩ = some (.slice a.fl.a a4 a.fl.c)) ∧ (w'.cell? ⟨Bb, 0, none⟩ = some (.string b.nm) ∧ w'.cell? ⟨Bb, 1, none⟩ = some (.int .i64 b.sg) ∧ w'.cell? ⟨Bb, 2, none⟩ = some (.slice b.pa.a b1 b.pa.c) ∧ w'.cell? ⟨Bb, 3, none⟩ = some (.slice b.po.a b2 b.po.c) ∧ w'.cell? ⟨Bb, 4, none⟩ = some (.slice b.ov.a b3 b.ov.c) ∧ w'.cell? ⟨Bb, 5, none⟩ = some (.slice b.fl.a b4 b.fl.c)))
  (exact HS.out _ (by first | exact (Below.refl _ W9) | exact (Below.refl _ W9).drew | assumption))
  (first
    | ((with_reducible refine (TA.out _ (by first | exact (Below.refl _ W9) | exact (Below.refl _ W9).drew | assumption)).mono ?_); rintro e w1 ⟨ta, tn, tc, rfl, hnt, hst, hbt⟩; have hBt : Below W9.heap.size W9 w1 := below_on (by first | exact (Below.refl _ W9) | exact (Below.refl _ W9).drew | assumption) hbt)
    | ((with_reducible refine (TB.out _ (by first | exact hBt | exact hBt.drew | assumption)).mono ?_); rintro e w2 ⟨ua, un, uc, rfl, hnu, hsu, hbu⟩; have hBu : Below W9.heap.size W9 w2 := below_on (by first | exact hBt | exact hBt.drew | assumption) hbu))
 obtain rfl : ma = tn := hnt.symm
 obtain rfl : mb = un := hnu.symm
 have hr := HR.out.kpC (kpC_below hBu)
 have ht := hst.below (show Below w1.heap.size w1 w2 by first | exact hbu | exact below_undrew hbu)
 have hj := HAb.out _ _ _ none HJ.out (below_grown hBu) (fun r e => by cases e)
 clear HR HS HJ TA TB
 have HR := Lib.hid hr
 have HT := Lib.hid ht
 have HU := Lib.hid hsu
 have HJ := Lib.hid hj
 clear hr ht hsu hj hst hbt hBt hbu hBu
 go_upto_region 3 with fail
 go_loopg [8, 33] ma (fun g _ i wr => ∃ k : Nat, k + g = ma ∧ i = .int .i64 (k : Int) ∧ J (D :: (a.tr.take k).map (hasI b.tr)) wr ∧ ReAt wr Ba Bb Bl L a b n2 P1 P3 P4 #[.string a.nm, .int .i64 a.sg, .slice a.pa.a a1 a.pa.c, .slice a.po.a a2 a.po.c, .slice a.ov.a a3 a.ov.c, .slice a.fl.a a4 a.fl.c] #[.string b.nm, .int .i64 b.sg, .slice b.pa.a b1 b.pa.c, .slice b.po.a b2 b.po.c, .slice b.ov.a b3 b.ov.c, .slice b.fl.a b4 b.fl.c] ∧ SlAt 1 intC wr ⟨ta, tc, a.tr⟩ ∧ SlAt 1 intC wr ⟨ua, uc, b.tr⟩)
 case atStart => exact ⟨0, by omega, rfl, HJ.out, HR.out, HT.out, HU.out⟩
 case round =>
  obtain ⟨k, hk, rfl, hj, hr, ht, hu⟩ := hrel
  clear HR HT HU HJ
  have HR := Lib.hid hr
  have HT := Lib.hid ht
  have HU := Lib.hid hu
  have HJ := Lib.hid hj
  clear hr ht hu hj
  by_cases hlt : k < ma
  ·obtain ⟨x, hx⟩ : ∃ x, a.tr[k]? = some x := ⟨_, List.getElem?_eq_getElem (by rw [HTA.out.1]; exact hlt)⟩
   have hrow := HT.out.row
   try dsimp only at hrow
   rcases hrow with hnil | ⟨xb, off, hxb, hc⟩
   ·rw [hnil] at hx; simp at hx
   have z0 := hc k _ hx 0 _ rfl
   rw [Nat.add_zero, Nat.mul_one] at z0
   have HX := Lib.hid hx
   have HXB := Lib.hid hxb
   have d1 : (0 : Int) ≤ k := by omega
   have d2 : (k : Int) < ma := by omega
   have E0 : Hid (wrap64 ((k : Int) + 1) = (k : Int) + 1) := Lib.hid (by have := HTA.out; unfold wrap64; omega)
   have HK := Lib.hid hk
   obtain ⟨v, hv⟩ : ∃ v, hasI b.tr x = v := ⟨_, rfl⟩
   have HIN := Lib.hid (contains_is v ua mb uc b.tr x wr hv HTB.out.1 (by have := HTB.out.2; omega) HU.out.row)
   have HJN : Hid (∀ V, J (D :: (a.tr.take k).map (hasI b.tr) ++ [v]) V → J (D :: (a.tr.take (k + 1)).map (hasI b.tr)) V) := Lib.hid (fun V h => by rw [List.take_add_one, HX.out, List.map_append]; show J (D :: ((a.tr.take k).map (hasI b.tr) ++ [hasI b.tr x])) V; rw [hv]; exact h)
   have HLE : Hid ((D :: (a.tr.take k).map (hasI b.tr)).length < (reasonsS L a b).length) := Lib.hid (by unfold reasonsS; simp only [List.length_cons, List.length_append, List.length_map, List.length_take]; have := HTA.out.1; omega)
   have HLT := Lib.hid hlt
   clear HPF
   have HPF := Lib.hid (pf_tr (L := L) HD.out hx hv)
   rw [hxb]
   clear hc hx hk hxb hv hlt
   go_upto_region 5 with fail
   clear z0 d1 d2
   refine (wpIn_wide (n := n)).1 ?_
   obtain ⟨fn, tmps, assign, body, hy, hRd⟩ := HY.out (D :: (a.tr.take k).map (hasI b.tr)) v wr HJ.out (HLE.out)
   gi_wp2
   refine ⟨trivial, fun _ => by omega, ?_⟩
   refine (callsIn_wide.2 HIN.out).mono ?_
   rintro e w3 ⟨rfl, rfl⟩
   gi_wp2
   refine ⟨fun _ => by omega, ?_⟩
   refine hRd.mono ?_
   clear hRd hy
   rintro e W9 (⟨rfl, hJ', hk'⟩ | ⟨rfl, hJx⟩)
   rotate_left
   ·gi_wp2
    go_wp2_with fail
    refine bodyPost_ret (results_none rfl _ _ _) rfl ?_
    exact ⟨⟨_, rfl⟩, .inr ⟨_, HPF.out, hJx⟩⟩
   have hr := HR.out.kpC hk'.c
   have ht := HT.out.kpC hk'.c
   have hu := HU.out.kpC hk'.c
   have hj := HJN.out _ hJ'
   have HR2 := Lib.hid hr
   have HT2 := Lib.hid ht
   have HU2 := Lib.hid hu
   have HJ2 := Lib.hid hj
   clear hr ht hu hj hk' hJ' HR HT HU HJ
   gi_wp2
   have e0 := E0.out
   go_wp2_with fail
   rw [← HXB.out]
   go_roundg (ma - (k + 1))
   case rel => exact ⟨k + 1, by have := HK.out; have := HLT.out; omega, by go_num, HJ2.out, HR2.out, HT2.out, HU2.out⟩
   case measure => have := HK.out; have := HLT.out; omega
  ·have hkm : k = ma := by omega
   have d2 : ¬ (k : Int) < ma := by omega
   have hj := HJ.out
   rw [List.take_of_length_le (by rw [HTA.out.1]; omega)] at hj
   have HJ2 := Lib.hid hj
   clear HJ hj hk hlt hkm
   go_upto_region 7 with fail
   clear d2
   have HS : Hid (∀ w', Below wr.heap.size wr w' → (w'.cell? ⟨Ba, 0, none⟩ = some (.string a.nm) ∧ w'.cell? ⟨Ba, 1, none⟩ = some (.int .i64 a.sg) ∧ w'.cell? ⟨Ba, 2, none⟩ = some (.slice a.pa.a a1 a.pa.c) ∧ w'.cell? ⟨Ba, 3, none⟩ = some (.slice a.po.a a2 a.po.c) ∧ w'.cell? ⟨Ba, 4, none⟩ = some (.slice a.ov.a a3 a.ov.c) ∧ w'.cell? ⟨Ba, 5, none⟩ = some (.slice a.fl.a a4 a.fl.c)) ∧ (w'.cell? ⟨Bb, 0, none⟩ = some (.string b.nm) ∧ w'.cell? ⟨Bb, 1, none⟩ = some (.int .i64 b.sg) ∧ w'.cell? ⟨Bb, 2, none⟩ = some (.slice b.pa.a b1 b.pa.c) ∧ w'.cell? ⟨Bb, 3, none⟩ = some (.slice b.po.a b2 b.po.c) ∧ w'.cell? ⟨Bb, 4, none⟩ = some (.slice b.ov.a b3 b.ov.c) ∧ w'.cell? ⟨Bb, 5, none⟩ = some (.slice b.fl.a b4 b.fl.c))) := Lib.hid (fun w' hw' => by
    have q := HR.out.kpC (kpC_below hw')
    exact ⟨⟨blk_cell q.qa 0 _ rfl, blk_cell q.qa 1 _ rfl, blk_cell q.qa 2 _ rfl, blk_cell q.qa 3 _ rfl, blk_cell q.qa 4 _ rfl, blk_cell q.qa 5 _ rfl⟩, ⟨blk_cell q.qb 0 _ rfl, blk_cell q.qb 1 _ rfl, blk_cell q.qb 2 _ rfl, blk_cell q.qb 3 _ rfl, blk_cell q.qb 4 _ rfl, blk_cell q.qb 5 _ rfl⟩⟩)
   have SA : Hid (∀ V, Below wr.heap.size wr V → Calls Try.prog 66 #[.agg #[.string a.nm, .int .i64 a.sg, .slice a.pa.a a1 a.pa.c, .slice a.po.a a2 a.po.c, .slice a.ov.a a3 a.ov.c, .slice a.fl.a a4 a.fl.c]] V fun e w' => ∃ g, e = .returned (.map (some g)) ∧ SdAt w' g (ndAt a.nd) ∧ Below V.heap.size V w') := Lib.hid (fun V hV => by
    have h := sides_is a V (HR.out.a.below hV) (by have := HA.out; omega)
    rw [slv HA.out.1, slv HA.out.2.1, slv HA.out.2.2.1, slv HA.out.2.2.2.1] at h
    exact h)
   have SB : Hid (∀ V, Below wr.heap.size wr V → Calls Try.prog 66 #[.agg #[.string b.nm, .int .i64 b.sg, .slice b.pa.a b1 b.pa.c, .slice b.po.a b2 b.po.c, .slice b.ov.a b3 b.ov.c, .slice b.fl.a b4 b.fl.c]] V fun e w' => ∃ g, e = .returned (.map (some g)) ∧ SdAt w' g (ndAt b.nd) ∧ Below V.heap.size V w') := Lib.hid (fun V hV => by
    have h := sides_is b V (HR.out.b.below hV) (by have := HB.out; omega)
    rw [slv HB.out.1, slv HB.out.2.1, slv HB.out.2.2.1, slv HB.out.2.2.2.1] at h
    exact h)
   go_region_held3 (fun w' => (w'.cell? ⟨Ba, 0, none⟩ = some (.string a.nm) ∧ w'.cell? ⟨Ba, 1, none⟩ = some (.int .i64 a.sg) ∧ w'.cell? ⟨Ba, 2, none⟩ = some (.slice a.pa.a a1 a.pa.c) ∧ w'.cell? ⟨Ba, 3, none⟩ = some (.slice a.po.a a2 a.po.c) ∧ w'.cell? ⟨Ba, 4, none⟩ = some (.slice a.ov.a a3 a.ov.c) ∧ w'.cell? ⟨Ba, 5, none⟩ = some (.slice a.fl.a a4 a.fl.c)) ∧ (w'.cell? ⟨Bb, 0, none⟩ = some (.string b.nm) ∧ w'.cell? ⟨Bb, 1, none⟩ = some (.int .i64 b.sg) ∧ w'.cell? ⟨Bb, 2, none⟩ = some (.slice b.pa.a b1 b.pa.c) ∧ w'.cell? ⟨Bb, 3, none⟩ = some (.slice b.po.a b2 b.po.c) ∧ w'.cell? ⟨Bb, 4, none⟩ = some (.slice b.ov.a b3 b.ov.c) ∧ w'.cell? ⟨Bb, 5, none⟩ = some (.slice b.fl.a b4 b.fl.c)))
    (exact HS.out _ (by first | exact (Below.refl _ wr) | exact (Below.refl _ wr).drew | assumption))
    (first
      | ((with_reducible refine (SA.out _ (by first | exact (Below.refl _ wr) | exact (Below.refl _ wr).drew | assumption)).mono ?_); rintro e v1 ⟨gx, rfl, hsx, hbx⟩; have hBx : Below wr.heap.size wr v1 := below_on (by first | exact (Below.refl _ wr) | exact (Below.refl _ wr).drew | assumption) hbx)
      | ((with_reducible refine (SB.out _ (by first | exact hBx | exact hBx.drew | assumption)).mono ?_); rintro e v2 ⟨gy, rfl, hsy, hby⟩; have hBy : Below wr.heap.size wr v2 := below_on (by first | exact hBx | exact hBx.drew | assumption) hby))
   have hr := HR.out.kpC (kpC_below hBy)
   have ht := HT.out.below hBy
   have hu := HU.out.below hBy
   have hx := hsx.below (show Below v1.heap.size v1 v2 by first | exact hby | exact below_undrew hby)
   have hj := HAb.out _ _ _ none HJ2.out (below_grown hBy) (fun r e => by cases e)
   clear HR HS SA SB HT HU HJ2
   have HR := Lib.hid hr
   have HT := Lib.hid ht
   have HU := Lib.hid hu
   have HJ := Lib.hid hj
   have HXM := Lib.hid hx
   have HYM := Lib.hid hsy
   have l1 := blk_cell HR.out.ql 1 _ rfl
   clear hr ht hu hj hx hsy hsx hbx hBx hby hBy
   go_upto_region 9 with fail
   clear l1
   go_loopg [11, 12, 13, 14, 15, 16, 17, 18, 51] n2 (fun g _ _ _ _ _ _ _ _ i wr => ∃ k : Nat, k + g = n2 ∧ i = .int .i64 (k : Int) ∧ J (D :: (a.tr.map (hasI b.tr) ++ (ptsR a b 0 L.po.l).take k)) wr ∧ ReAt wr Ba Bb Bl L a b n2 P1 P3 P4 #[.string a.nm, .int .i64 a.sg, .slice a.pa.a a1 a.pa.c, .slice a.po.a a2 a.po.c, .slice a.ov.a a3 a.ov.c, .slice a.fl.a a4 a.fl.c] #[.string b.nm, .int .i64 b.sg, .slice b.pa.a b1 b.pa.c, .slice b.po.a b2 b.po.c, .slice b.ov.a b3 b.ov.c, .slice b.fl.a b4 b.fl.c] ∧ SlAt 1 intC wr ⟨ta, tc, a.tr⟩ ∧ SlAt 1 intC wr ⟨ua, uc, b.tr⟩ ∧ SdAt wr gx (ndAt a.nd) ∧ SdAt wr gy (ndAt b.nd))
   case atStart => exact ⟨0, by omega, rfl, by rw [List.take_zero, List.append_nil]; exact HJ.out, HR.out, HT.out, HU.out, HXM.out, HYM.out⟩
   case round =>
    obtain ⟨k, hk, rfl, hj, hr, ht, hu, hx, hy⟩ := hrel
    clear HR HT HU HJ HXM HYM
    have HR := Lib.hid hr
    have HT := Lib.hid ht
    have HU := Lib.hid hu
    have HJ := Lib.hid hj
    have HXM := Lib.hid hx
    have HYM := Lib.hid hy
    clear hr ht hu hj hx hy
    by_cases hlt : k < n2
    ·obtain ⟨⟨y0, s1⟩, hy⟩ : ∃ y, L.po.l[k]? = some y := ⟨_, List.getElem?_eq_getElem (by rw [HN.out]; exact hlt)⟩
     rcases HR.out.po with hnil | ⟨xb, off, hxb, hc⟩
     ·rw [hnil] at hy; simp at hy
     have z0 := hc k _ hy 0 _ rfl
     have z1 := hc k _ hy 1 _ rfl
     rw [Nat.add_zero] at z0
     dsimp only at z0 z1
     have HXB := Lib.hid hxb
     have d1 : (0 : Int) ≤ k := by omega
     have d2 : (k : Int) < n2 := by omega
     have E0 : Hid (wrap64 ((k : Int) + 1) = (k : Int) + 1) := Lib.hid (by have := HN2.out; unfold wrap64; omega)
     have HK := Lib.hid hk
     have HLT := Lib.hid hlt
     have HJN : Hid (∀ B, ptBad a.tr b.tr (ndAt a.nd (k : Int)) (ndAt b.nd (k : Int)) s1 = B → ∀ V, J (D :: (a.tr.map (hasI b.tr) ++ (ptsR a b 0 L.po.l).take k) ++ [B]) V → J (D :: (a.tr.map (hasI b.tr) ++ (ptsR a b 0 L.po.l).take (k + 1))) V) := Lib.hid (fun B hB V h => by
      have hp := ptsR_get (a := a) (b := b) (k := 0) hy
      rw [Nat.zero_add, hB] at hp
      rw [List.take_add_one, hp]
      show J (D :: (a.tr.map (hasI b.tr) ++ ((ptsR a b 0 L.po.l).take k ++ [B]))) V
      rw [← List.append_assoc]
      exact h)
     have HYP : Hid (∀ B, ptBad a.tr b.tr (ndAt a.nd (k : Int)) (ndAt b.nd (k : Int)) s1 = B → (ptsR a b 0 L.po.l)[k]? = some B) := Lib.hid (fun B hB => by
      have hp := ptsR_get (a := a) (b := b) (k := 0) hy
      rw [Nat.zero_add, hB] at hp
      exact hp)
     clear HPF
     have HLE : Hid ((D :: (a.tr.map (hasI b.tr) ++ (ptsR a b 0 L.po.l).take k)).length < (reasonsS L a b).length) := Lib.hid (by unfold reasonsS; simp only [List.length_cons, List.length_append, List.length_map, List.length_take, ptsR_len]; have := HN.out; omega)
     have hb4 := below1 wr (.cells #[.string y0, .int .i64 s1] 51)
     have hc4 := alloc1 wr (.cells #[.string y0, .int .i64 s1] 51) (Below.refl _ _)
     obtain ⟨W4, hW4⟩ : ∃ V, V = wr.alloc (.cells #[.string y0, .int .i64 s1] 51) := ⟨_, rfl⟩
     rw [← hW4] at hb4 hc4
     have hr := HR.out.kpC (kpC_below hb4)
     have ht := HT.out.below hb4
     have hu := HU.out.below hb4
     have hx := HXM.out.below hb4
     have hy4 := HYM.out.below hb4
     have hj := HAb.out _ _ _ none HJ.out (below_grown hb4) (fun r e => by cases e)
     clear HR HT HU HJ HXM HYM
     have HR := Lib.hid hr
     have HT := Lib.hid ht
     have HU := Lib.hid hu
     have HJ := Lib.hid hj
     have HXM := Lib.hid hx
     have HYM := Lib.hid hy4
     have lkx := run_sd_get (p := (k : Int)) HXM.out
     have lky := run_sd_get (p := (k : Int)) HYM.out
     have HWW := Lib.hid hW4
     obtain ⟨gp, hgp⟩ : ∃ g, g = wr.heap.size := ⟨_, rfl⟩
     rw [← hgp] at hc4
     have HGP := Lib.hid hgp
     have c1 := blk_cell hc4 1 _ rfl
     rw [hxb]
     clear hc hy hk hlt hxb hb4 hc4 hr ht hu hx hy4 hj hW4 hgp
     go_upto_region 11 with fail
     rw [← HWW.out, ← HGP.out, ← HXB.out]
     clear z0 z1 d1 d2
     rcases hX : ndAt a.nd (k : Int) with _ | (_ | _) <;> rcases hY : ndAt b.nd (k : Int) with _ | (_ | _)
     ·have HXV : Hid (ndAt a.nd (k : Int) = none) := Lib.hid hX
      have HYV : Hid (ndAt b.nd (k : Int) = none) := Lib.hid hY
      rw [hX] at lkx
      rw [hY] at lky
      dsimp only [Option.getD, Option.isSome] at lkx lky
      clear hX hY
      go_upto_region 15 with fail
      clear c1 lkx lky
      have HBD : Hid (ptBad a.tr b.tr (ndAt a.nd (k : Int)) (ndAt b.nd (k : Int)) s1 = false) := Lib.hid (by rw [HXV.out, HYV.out]; unfold ptBad; cases hasI a.tr s1 <;> cases hasI b.tr s1 <;> rfl)
      have HPF := Lib.hid (pf_pt (L := L) HD.out (HYP.out _ HBD.out))
      refine (wpIn_wide (n := n)).1 ?_
      obtain ⟨fn, tmps, assign, body, hy, hRd⟩ := HY.out (D :: (a.tr.map (hasI b.tr) ++ (ptsR a b 0 L.po.l).take k)) false W4 HJ.out (HLE.out)
      gi_wp2
      refine ⟨fun _ => by omega, ?_⟩
      refine hRd.mono ?_
      clear hRd hy
      rintro e W9 (⟨rfl, hJ', hk'⟩ | ⟨rfl, hJx⟩)
      rotate_left
      ·gi_wp2
       go_wp2_with fail
       refine bodyPost_ret (results_none rfl _ _ _) rfl ?_
       exact ⟨⟨_, rfl⟩, .inr ⟨_, HPF.out, hJx⟩⟩
      have hr := HR.out.kpC hk'.c
      have ht := HT.out.kpC hk'.c
      have hu := HU.out.kpC hk'.c
      have hx := HXM.out.kpA hk'
      have hy := HYM.out.kpA hk'
      have hj := HJN.out _ HBD.out _ hJ'
      have HR2 := Lib.hid hr
      have HT2 := Lib.hid ht
      have HU2 := Lib.hid hu
      have HJ2 := Lib.hid hj
      have HX2 := Lib.hid hx
      have HY2 := Lib.hid hy
      clear hr ht hu hj hx hy hk' hJ' HR HT HU HJ HXM HYM
      gi_wp2
      have e0 := E0.out
      go_wp2_with fail
      go_roundg (n2 - (k + 1))
      case rel => exact ⟨k + 1, by have := HK.out; have := HLT.out; omega, by go_num, HJ2.out, HR2.out, HT2.out, HU2.out, HX2.out, HY2.out⟩
      case measure => have := HK.out; have := HLT.out; omega
     ·have HXV : Hid (ndAt a.nd (k : Int) = none) := Lib.hid hX
      have HYV : Hid (ndAt b.nd (k : Int) = (some false)) := Lib.hid hY
      rw [hX] at lkx
      rw [hY] at lky
      dsimp only [Option.getD, Option.isSome] at lkx lky
      clear hX hY
      obtain ⟨E, hE⟩ : ∃ E, hasI a.tr s1 = E := ⟨_, rfl⟩
      have HIN := Lib.hid (contains_is E ta ma tc a.tr s1 W4 hE HTA.out.1 (by have := HTA.out.2; omega) HT.out.row)
      have HE := Lib.hid hE
      clear hE
      go_upto_region 14 with fail
      go_wp2_with fail
      refine HIN.out.mono ?_
      rintro e w8 ⟨rfl, rfl⟩
      clear HIN c1 lkx lky
      cases E with
      | true =>
        go_upto_region 15 with fail
        have HBD : Hid (ptBad a.tr b.tr (ndAt a.nd (k : Int)) (ndAt b.nd (k : Int)) s1 = true) := Lib.hid (by rw [HXV.out, HYV.out]; unfold ptBad; rw [HE.out]; cases hasI b.tr s1 <;> rfl)
        have HPF := Lib.hid (pf_pt (L := L) HD.out (HYP.out _ HBD.out))
        refine (wpIn_wide (n := n)).1 ?_
        obtain ⟨fn, tmps, assign, body, hy, hRd⟩ := HY.out (D :: (a.tr.map (hasI b.tr) ++ (ptsR a b 0 L.po.l).take k)) true W4 HJ.out (HLE.out)
        gi_wp2
        refine ⟨fun _ => by omega, ?_⟩
        refine hRd.mono ?_
        clear hRd hy
        rintro e W9 (⟨rfl, hJ', hk'⟩ | ⟨rfl, hJx⟩)
        rotate_left
        ·gi_wp2
         go_wp2_with fail
         refine bodyPost_ret (results_none rfl _ _ _) rfl ?_
         exact ⟨⟨_, rfl⟩, .inr ⟨_, HPF.out, hJx⟩⟩
        have hr := HR.out.kpC hk'.c
        have ht := HT.out.kpC hk'.c
        have hu := HU.out.kpC hk'.c
        have hx := HXM.out.kpA hk'
        have hy := HYM.out.kpA hk'
        have hj := HJN.out _ HBD.out _ hJ'
        have HR2 := Lib.hid hr
        have HT2 := Lib.hid ht
        have HU2 := Lib.hid hu
        have HJ2 := Lib.hid hj
        have HX2 := Lib.hid hx
        have HY2 := Lib.hid hy
        clear hr ht hu hj hx hy hk' hJ' HR HT HU HJ HXM HYM
        gi_wp2
        have e0 := E0.out
        go_wp2_with fail
        go_roundg (n2 - (k + 1))
        case rel => exact ⟨k + 1, by have := HK.out; have := HLT.out; omega, by go_num, HJ2.out, HR2.out, HT2.out, HU2.out, HX2.out, HY2.out⟩
        case measure => have := HK.out; have := HLT.out; omega
      | false =>
        go_upto_region 15 with fail
        have HBD : Hid (ptBad a.tr b.tr (ndAt a.nd (k : Int)) (ndAt b.nd (k : Int)) s1 = false) := Lib.hid (by rw [HXV.out, HYV.out]; unfold ptBad; rw [HE.out]; cases hasI b.tr s1 <;> rfl)
        have HPF := Lib.hid (pf_pt (L := L) HD.out (HYP.out _ HBD.out))
        refine (wpIn_wide (n := n)).1 ?_
        obtain ⟨fn, tmps, assign, body, hy, hRd⟩ := HY.out (D :: (a.tr.map (hasI b.tr) ++ (ptsR a b 0 L.po.l).take k)) false W4 HJ.out (HLE.out)
        gi_wp2
        refine ⟨fun _ => by omega, ?_⟩
        refine hRd.mono ?_
        clear hRd hy
        rintro e W9 (⟨rfl, hJ', hk'⟩ | ⟨rfl, hJx⟩)
        rotate_left
        ·gi_wp2
         go_wp2_with fail
         refine bodyPost_ret (results_none rfl _ _ _) rfl ?_
         exact ⟨⟨_, rfl⟩, .inr ⟨_, HPF.out, hJx⟩⟩
        have hr := HR.out.kpC hk'.c
        have ht := HT.out.kpC hk'.c
        have hu := HU.out.kpC hk'.c
        have hx := HXM.out.kpA hk'
        have hy := HYM.out.kpA hk'
        have hj := HJN.out _ HBD.out _ hJ'
        have HR2 := Lib.hid hr
        have HT2 := Lib.hid ht
        have HU2 := Lib.hid hu
        have HJ2 := Lib.hid hj
        have HX2 := Lib.hid hx
        have HY2 := Lib.hid hy
        clear hr ht hu hj hx hy hk' hJ' HR HT HU HJ HXM HYM
        gi_wp2
        have e0 := E0.out
        go_wp2_with fail
        go_roundg (n2 - (k + 1))
        case rel => exact ⟨k + 1, by have := HK.out; have := HLT.out; omega, by go_num, HJ2.out, HR2.out, HT2.out, HU2.out, HX2.out, HY2.out⟩
        case measure => have := HK.out; have := HLT.out; omega
     ·have HXV : Hid (ndAt a.nd (k : Int) = none) := Lib.hid hX
      have HYV : Hid (ndAt b.nd (k : Int) = (some true)) := Lib.hid hY
      rw [hX] at lkx
      rw [hY] at lky
      dsimp only [Option.getD, Option.isSome] at lkx lky
      clear hX hY
      obtain ⟨E, hE⟩ : ∃ E, hasI a.tr s1 = E := ⟨_, rfl⟩
      have HIN := Lib.hid (contains_is E ta ma tc a.tr s1 W4 hE HTA.out.1 (by have := HTA.out.2; omega) HT.out.row)
      have HE := Lib.hid hE
      clear hE
      go_upto_region 14 with fail
      go_wp2_with fail
      refine HIN.out.mono ?_
      rintro e w8 ⟨rfl, rfl⟩
      clear HIN c1 lkx lky
      cases E with
      | true =>
        go_upto_region 15 with fail
        have HBD : Hid (ptBad a.tr b.tr (ndAt a.nd (k : Int)) (ndAt b.nd (k : Int)) s1 = true) := Lib.hid (by rw [HXV.out, HYV.out]; unfold ptBad; rw [HE.out]; cases hasI b.tr s1 <;> rfl)
        have HPF := Lib.hid (pf_pt (L := L) HD.out (HYP.out _ HBD.out))
        refine (wpIn_wide (n := n)).1 ?_
        obtain ⟨fn, tmps, assign, body, hy, hRd⟩ := HY.out (D :: (a.tr.map (hasI b.tr) ++ (ptsR a b 0 L.po.l).take k)) true W4 HJ.out (HLE.out)
        gi_wp2
        refine ⟨fun _ => by omega, ?_⟩
        refine hRd.mono ?_
        clear hRd hy
        rintro e W9 (⟨rfl, hJ', hk'⟩ | ⟨rfl, hJx⟩)
        rotate_left
        ·gi_wp2
         go_wp2_with fail
         refine bodyPost_ret (results_none rfl _ _ _) rfl ?_
         exact ⟨⟨_, rfl⟩, .inr ⟨_, HPF.out, hJx⟩⟩
        have hr := HR.out.kpC hk'.c
        have ht := HT.out.kpC hk'.c
        have hu := HU.out.kpC hk'.c
        have hx := HXM.out.kpA hk'
        have hy := HYM.out.kpA hk'
        have hj := HJN.out _ HBD.out _ hJ'
        have HR2 := Lib.hid hr
        have HT2 := Lib.hid ht
        have HU2 := Lib.hid hu
        have HJ2 := Lib.hid hj
        have HX2 := Lib.hid hx
        have HY2 := Lib.hid hy
        clear hr ht hu hj hx hy hk' hJ' HR HT HU HJ HXM HYM
        gi_wp2
        have e0 := E0.out
        go_wp2_with fail
        go_roundg (n2 - (k + 1))
        case rel => exact ⟨k + 1, by have := HK.out; have := HLT.out; omega, by go_num, HJ2.out, HR2.out, HT2.out, HU2.out, HX2.out, HY2.out⟩
        case measure => have := HK.out; have := HLT.out; omega
      | false =>
        go_upto_region 15 with fail
        have HBD : Hid (ptBad a.tr b.tr (ndAt a.nd (k : Int)) (ndAt b.nd (k : Int)) s1 = false) := Lib.hid (by rw [HXV.out, HYV.out]; unfold ptBad; rw [HE.out]; cases hasI b.tr s1 <;> rfl)
        have HPF := Lib.hid (pf_pt (L := L) HD.out (HYP.out _ HBD.out))
        refine (wpIn_wide (n := n)).1 ?_
        obtain ⟨fn, tmps, assign, body, hy, hRd⟩ := HY.out (D :: (a.tr.map (hasI b.tr) ++ (ptsR a b 0 L.po.l).take k)) false W4 HJ.out (HLE.out)
        gi_wp2
        refine ⟨fun _ => by omega, ?_⟩
        refine hRd.mono ?_
        clear hRd hy
        rintro e W9 (⟨rfl, hJ', hk'⟩ | ⟨rfl, hJx⟩)
        rotate_left
        ·gi_wp2
         go_wp2_with fail
         refine bodyPost_ret (results_none rfl _ _ _) rfl ?_
         exact ⟨⟨_, rfl⟩, .inr ⟨_, HPF.out, hJx⟩⟩
        have hr := HR.out.kpC hk'.c
        have ht := HT.out.kpC hk'.c
        have hu := HU.out.kpC hk'.c
        have hx := HXM.out.kpA hk'
        have hy := HYM.out.kpA hk'
        have hj := HJN.out _ HBD.out _ hJ'
        have HR2 := Lib.hid hr
        have HT2 := Lib.hid ht
        have HU2 := Lib.hid hu
        have HJ2 := Lib.hid hj
        have HX2 := Lib.hid hx
        have HY2 := Lib.hid hy
        clear hr ht hu hj hx hy hk' hJ' HR HT HU HJ HXM HYM
        gi_wp2
        have e0 := E0.out
        go_wp2_with fail
        go_roundg (n2 - (k + 1))
        case rel => exact ⟨k + 1, by have := HK.out; have := HLT.out; omega, by go_num, HJ2.out, HR2.out, HT2.out, HU2.out, HX2.out, HY2.out⟩
        case measure => have := HK.out; have := HLT.out; omega
     ·have HXV : Hid (ndAt a.nd (k : Int) = (some false)) := Lib.hid hX
      have HYV : Hid (ndAt b.nd (k : Int) = none) := Lib.hid hY
      rw [hX] at lkx
      rw [hY] at lky
      dsimp only [Option.getD, Option.isSome] at lkx lky
      clear hX hY
      obtain ⟨E, hE⟩ : ∃ E, hasI b.tr s1 = E := ⟨_, rfl⟩
      have HIN := Lib.hid (contains_is E ua mb uc b.tr s1 W4 hE HTB.out.1 (by have := HTB.out.2; omega) HU.out.row)
      have HE := Lib.hid hE
      clear hE
      go_upto_region 14 with fail
      go_wp2_with fail
      refine HIN.out.mono ?_
      rintro e w8 ⟨rfl, rfl⟩
      clear HIN c1 lkx lky
      cases E with
      | true =>
        go_upto_region 15 with fail
        have HBD : Hid (ptBad a.tr b.tr (ndAt a.nd (k : Int)) (ndAt b.nd (k : Int)) s1 = true) := Lib.hid (by rw [HXV.out, HYV.out]; unfold ptBad; rw [HE.out]; cases hasI a.tr s1 <;> rfl)
        have HPF := Lib.hid (pf_pt (L := L) HD.out (HYP.out _ HBD.out))
        refine (wpIn_wide (n := n)).1 ?_
        obtain ⟨fn, tmps, assign, body, hy, hRd⟩ := HY.out (D :: (a.tr.map (hasI b.tr) ++ (ptsR a b 0 L.po.l).take k)) true W4 HJ.out (HLE.out)
        gi_wp2
        refine ⟨fun _ => by omega, ?_⟩
        refine hRd.mono ?_
        clear hRd hy
        rintro e W9 (⟨rfl, hJ', hk'⟩ | ⟨rfl, hJx⟩)
        rotate_left
        ·gi_wp2
         go_wp2_with fail
         refine bodyPost_ret (results_none rfl _ _ _) rfl ?_
         exact ⟨⟨_, rfl⟩, .inr ⟨_, HPF.out, hJx⟩⟩
        have hr := HR.out.kpC hk'.c
        have ht := HT.out.kpC hk'.c
        have hu := HU.out.kpC hk'.c
        have hx := HXM.out.kpA hk'
        have hy := HYM.out.kpA hk'
        have hj := HJN.out _ HBD.out _ hJ'
        have HR2 := Lib.hid hr
        have HT2 := Lib.hid ht
        have HU2 := Lib.hid hu
        have HJ2 := Lib.hid hj
        have HX2 := Lib.hid hx
        have HY2 := Lib.hid hy
        clear hr ht hu hj hx hy hk' hJ' HR HT HU HJ HXM HYM
        gi_wp2
        have e0 := E0.out
        go_wp2_with fail
        go_roundg (n2 - (k + 1))
        case rel => exact ⟨k + 1, by have := HK.out; have := HLT.out; omega, by go_num, HJ2.out, HR2.out, HT2.out, HU2.out, HX2.out, HY2.out⟩
        case measure => have := HK.out; have := HLT.out; omega
      | false =>
        go_upto_region 15 with fail
        have HBD : Hid (ptBad a.tr b.tr (ndAt a.nd (k : Int)) (ndAt b.nd (k : Int)) s1 = false) := Lib.hid (by rw [HXV.out, HYV.out]; unfold ptBad; rw [HE.out]; cases hasI a.tr s1 <;> rfl)
        have HPF := Lib.hid (pf_pt (L := L) HD.out (HYP.out _ HBD.out))
        refine (wpIn_wide (n := n)).1 ?_
        obtain ⟨fn, tmps, assign, body, hy, hRd⟩ := HY.out (D :: (a.tr.map (hasI b.tr) ++ (ptsR a b 0 L.po.l).take k)) false W4 HJ.out (HLE.out)
        gi_wp2
        refine ⟨fun _ => by omega, ?_⟩
        refine hRd.mono ?_
        clear hRd hy
        rintro e W9 (⟨rfl, hJ', hk'⟩ | ⟨rfl, hJx⟩)
        rotate_left
        ·gi_wp2
         go_wp2_with fail
         refine bodyPost_ret (results_none rfl _ _ _) rfl ?_
         exact ⟨⟨_, rfl⟩, .inr ⟨_, HPF.out, hJx⟩⟩
        have hr := HR.out.kpC hk'.c
        have ht := HT.out.kpC hk'.c
        have hu := HU.out.kpC hk'.c
        have hx := HXM.out.kpA hk'
        have hy := HYM.out.kpA hk'
        have hj := HJN.out _ HBD.out _ hJ'
        have HR2 := Lib.hid hr
        have HT2 := Lib.hid ht
        have HU2 := Lib.hid hu
        have HJ2 := Lib.hid hj
        have HX2 := Lib.hid hx
        have HY2 := Lib.hid hy
        clear hr ht hu hj hx hy hk' hJ' HR HT HU HJ HXM HYM
        gi_wp2
        have e0 := E0.out
        go_wp2_with fail
        go_roundg (n2 - (k + 1))
        case rel => exact ⟨k + 1, by have := HK.out; have := HLT.out; omega, by go_num, HJ2.out, HR2.out, HT2.out, HU2.out, HX2.out, HY2.out⟩
        case measure => have := HK.out; have := HLT.out; omega
     ·have HXV : Hid (ndAt a.nd (k : Int) = (some false)) := Lib.hid hX
      have HYV : Hid (ndAt b.nd (k : Int) = (some false)) := Lib.hid hY
      rw [hX] at lkx
      rw [hY] at lky
      dsimp only [Option.getD, Option.isSome] at lkx lky
      clear hX hY
      go_upto_region 15 with fail
      clear c1 lkx lky
      have HBD : Hid (ptBad a.tr b.tr (ndAt a.nd (k : Int)) (ndAt b.nd (k : Int)) s1 = false) := Lib.hid (by rw [HXV.out, HYV.out]; unfold ptBad; cases hasI a.tr s1 <;> cases hasI b.tr s1 <;> rfl)
      have HPF := Lib.hid (pf_pt (L := L) HD.out (HYP.out _ HBD.out))
      refine (wpIn_wide (n := n)).1 ?_
      obtain ⟨fn, tmps, assign, body, hy, hRd⟩ := HY.out (D :: (a.tr.map (hasI b.tr) ++ (ptsR a b 0 L.po.l).take k)) false W4 HJ.out (HLE.out)
      gi_wp2
      refine ⟨fun _ => by omega, ?_⟩
      refine hRd.mono ?_
      clear hRd hy
      rintro e W9 (⟨rfl, hJ', hk'⟩ | ⟨rfl, hJx⟩)
      rotate_left
      ·gi_wp2
       go_wp2_with fail
       refine bodyPost_ret (results_none rfl _ _ _) rfl ?_
       exact ⟨⟨_, rfl⟩, .inr ⟨_, HPF.out, hJx⟩⟩
      have hr := HR.out.kpC hk'.c
      have ht := HT.out.kpC hk'.c
      have hu := HU.out.kpC hk'.c
      have hx := HXM.out.kpA hk'
      have hy := HYM.out.kpA hk'
      have hj := HJN.out _ HBD.out _ hJ'
      have HR2 := Lib.hid hr
      have HT2 := Lib.hid ht
      have HU2 := Lib.hid hu
      have HJ2 := Lib.hid hj
      have HX2 := Lib.hid hx
      have HY2 := Lib.hid hy
      clear hr ht hu hj hx hy hk' hJ' HR HT HU HJ HXM HYM
      gi_wp2
      have e0 := E0.out
      go_wp2_with fail
      go_roundg (n2 - (k + 1))
      case rel => exact ⟨k + 1, by have := HK.out; have := HLT.out; omega, by go_num, HJ2.out, HR2.out, HT2.out, HU2.out, HX2.out, HY2.out⟩
      case measure => have := HK.out; have := HLT.out; omega
     ·have HXV : Hid (ndAt a.nd (k : Int) = (some false)) := Lib.hid hX
      have HYV : Hid (ndAt b.nd (k : Int) = (some true)) := Lib.hid hY
      rw [hX] at lkx
      rw [hY] at lky
      dsimp only [Option.getD, Option.isSome] at lkx lky
      clear hX hY
      go_upto_region 15 with fail
      clear c1 lkx lky
      have HBD : Hid (ptBad a.tr b.tr (ndAt a.nd (k : Int)) (ndAt b.nd (k : Int)) s1 = true) := Lib.hid (by rw [HXV.out, HYV.out]; unfold ptBad; cases hasI a.tr s1 <;> cases hasI b.tr s1 <;> rfl)
      have HPF := Lib.hid (pf_pt (L := L) HD.out (HYP.out _ HBD.out))
      refine (wpIn_wide (n := n)).1 ?_
      obtain ⟨fn, tmps, assign, body, hy, hRd⟩ := HY.out (D :: (a.tr.map (hasI b.tr) ++ (ptsR a b 0 L.po.l).take k)) true W4 HJ.out (HLE.out)
      gi_wp2
      refine ⟨fun _ => by omega, ?_⟩
      refine hRd.mono ?_
      clear hRd hy
      rintro e W9 (⟨rfl, hJ', hk'⟩ | ⟨rfl, hJx⟩)
      rotate_left
      ·gi_wp2
       go_wp2_with fail
       refine bodyPost_ret (results_none rfl _ _ _) rfl ?_
       exact ⟨⟨_, rfl⟩, .inr ⟨_, HPF.out, hJx⟩⟩
      have hr := HR.out.kpC hk'.c
      have ht := HT.out.kpC hk'.c
      have hu := HU.out.kpC hk'.c
      have hx := HXM.out.kpA hk'
      have hy := HYM.out.kpA hk'
      have hj := HJN.out _ HBD.out _ hJ'
      have HR2 := Lib.hid hr
      have HT2 := Lib.hid ht
      have HU2 := Lib.hid hu
      have HJ2 := Lib.hid hj
      have HX2 := Lib.hid hx
      have HY2 := Lib.hid hy
      clear hr ht hu hj hx hy hk' hJ' HR HT HU HJ HXM HYM
      gi_wp2
      have e0 := E0.out
      go_wp2_with fail
      go_roundg (n2 - (k + 1))
      case rel => exact ⟨k + 1, by have := HK.out; have := HLT.out; omega, by go_num, HJ2.out, HR2.out, HT2.out, HU2.out, HX2.out, HY2.out⟩
      case measure => have := HK.out; have := HLT.out; omega
     ·have HXV : Hid (ndAt a.nd (k : Int) = (some true)) := Lib.hid hX
      have HYV : Hid (ndAt b.nd (k : Int) = none) := Lib.hid hY
      rw [hX] at lkx
      rw [hY] at lky
      dsimp only [Option.getD, Option.isSome] at lkx lky
      clear hX hY
      obtain ⟨E, hE⟩ : ∃ E, hasI b.tr s1 = E := ⟨_, rfl⟩
      have HIN := Lib.hid (contains_is E ua mb uc b.tr s1 W4 hE HTB.out.1 (by have := HTB.out.2; omega) HU.out.row)
      have HE := Lib.hid hE
      clear hE
      go_upto_region 14 with fail
      go_wp2_with fail
      refine HIN.out.mono ?_
      rintro e w8 ⟨rfl, rfl⟩
      clear HIN c1 lkx lky
      cases E with
      | true =>
        go_upto_region 15 with fail
        have HBD : Hid (ptBad a.tr b.tr (ndAt a.nd (k : Int)) (ndAt b.nd (k : Int)) s1 = true) := Lib.hid (by rw [HXV.out, HYV.out]; unfold ptBad; rw [HE.out]; cases hasI a.tr s1 <;> rfl)
        have HPF := Lib.hid (pf_pt (L := L) HD.out (HYP.out _ HBD.out))
        refine (wpIn_wide (n := n)).1 ?_
        obtain ⟨fn, tmps, assign, body, hy, hRd⟩ := HY.out (D :: (a.tr.map (hasI b.tr) ++ (ptsR a b 0 L.po.l).take k)) true W4 HJ.out (HLE.out)
        gi_wp2
        refine ⟨fun _ => by omega, ?_⟩
        refine hRd.mono ?_
        clear hRd hy
        rintro e W9 (⟨rfl, hJ', hk'⟩ | ⟨rfl, hJx⟩)
        rotate_left
        ·gi_wp2
         go_wp2_with fail
         refine bodyPost_ret (results_none rfl _ _ _) rfl ?_
         exact ⟨⟨_, rfl⟩, .inr ⟨_, HPF.out, hJx⟩⟩
        have hr := HR.out.kpC hk'.c
        have ht := HT.out.kpC hk'.c
        have hu := HU.out.kpC hk'.c
        have hx := HXM.out.kpA hk'
        have hy := HYM.out.kpA hk'
        have hj := HJN.out _ HBD.out _ hJ'
        have HR2 := Lib.hid hr
        have HT2 := Lib.hid ht
        have HU2 := Lib.hid hu
        have HJ2 := Lib.hid hj
        have HX2 := Lib.hid hx
        have HY2 := Lib.hid hy
        clear hr ht hu hj hx hy hk' hJ' HR HT HU HJ HXM HYM
        gi_wp2
        have e0 := E0.out
        go_wp2_with fail
        go_roundg (n2 - (k + 1))
        case rel => exact ⟨k + 1, by have := HK.out; have := HLT.out; omega, by go_num, HJ2.out, HR2.out, HT2.out, HU2.out, HX2.out, HY2.out⟩
        case measure => have := HK.out; have := HLT.out; omega
      | false =>
        go_upto_region 15 with fail
        have HBD : Hid (ptBad a.tr b.tr (ndAt a.nd (k : Int)) (ndAt b.nd (k : Int)) s1 = false) := Lib.hid (by rw [HXV.out, HYV.out]; unfold ptBad; rw [HE.out]; cases hasI a.tr s1 <;> rfl)
        have HPF := Lib.hid (pf_pt (L := L) HD.out (HYP.out _ HBD.out))
        refine (wpIn_wide (n := n)).1 ?_
        obtain ⟨fn, tmps, assign, body, hy, hRd⟩ := HY.out (D :: (a.tr.map (hasI b.tr) ++ (ptsR a b 0 L.po.l).take k)) false W4 HJ.out (HLE.out)
        gi_wp2
        refine ⟨fun _ => by omega, ?_⟩
        refine hRd.mono ?_
        clear hRd hy
        rintro e W9 (⟨rfl, hJ', hk'⟩ | ⟨rfl, hJx⟩)
        rotate_left
        ·gi_wp2
         go_wp2_with fail
         refine bodyPost_ret (results_none rfl _ _ _) rfl ?_
         exact ⟨⟨_, rfl⟩, .inr ⟨_, HPF.out, hJx⟩⟩
        have hr := HR.out.kpC hk'.c
        have ht := HT.out.kpC hk'.c
        have hu := HU.out.kpC hk'.c
        have hx := HXM.out.kpA hk'
        have hy := HYM.out.kpA hk'
        have hj := HJN.out _ HBD.out _ hJ'
        have HR2 := Lib.hid hr
        have HT2 := Lib.hid ht
        have HU2 := Lib.hid hu
        have HJ2 := Lib.hid hj
        have HX2 := Lib.hid hx
        have HY2 := Lib.hid hy
        clear hr ht hu hj hx hy hk' hJ' HR HT HU HJ HXM HYM
        gi_wp2
        have e0 := E0.out
        go_wp2_with fail
        go_roundg (n2 - (k + 1))
        case rel => exact ⟨k + 1, by have := HK.out; have := HLT.out; omega, by go_num, HJ2.out, HR2.out, HT2.out, HU2.out, HX2.out, HY2.out⟩
        case measure => have := HK.out; have := HLT.out; omega
     ·have HXV : Hid (ndAt a.nd (k : Int) = (some true)) := Lib.hid hX
      have HYV : Hid (ndAt b.nd (k : Int) = (some false)) := Lib.hid hY
      rw [hX] at lkx
      rw [hY] at lky
      dsimp only [Option.getD, Option.isSome] at lkx lky
      clear hX hY
      go_upto_region 15 with fail
      clear c1 lkx lky
      have HBD : Hid (ptBad a.tr b.tr (ndAt a.nd (k : Int)) (ndAt b.nd (k : Int)) s1 = true) := Lib.hid (by rw [HXV.out, HYV.out]; unfold ptBad; cases hasI a.tr s1 <;> cases hasI b.tr s1 <;> rfl)
      have HPF := Lib.hid (pf_pt (L := L) HD.out (HYP.out _ HBD.out))
      refine (wpIn_wide (n := n)).1 ?_
      obtain ⟨fn, tmps, assign, body, hy, hRd⟩ := HY.out (D :: (a.tr.map (hasI b.tr) ++ (ptsR a b 0 L.po.l).take k)) true W4 HJ.out (HLE.out)
      gi_wp2
      refine ⟨fun _ => by omega, ?_⟩
      refine hRd.mono ?_
      clear hRd hy
      rintro e W9 (⟨rfl, hJ', hk'⟩ | ⟨rfl, hJx⟩)
      rotate_left
      ·gi_wp2
       go_wp2_with fail
       refine bodyPost_ret (results_none rfl _ _ _) rfl ?_
       exact ⟨⟨_, rfl⟩, .inr ⟨_, HPF.out, hJx⟩⟩
      have hr := HR.out.kpC hk'.c
      have ht := HT.out.kpC hk'.c
      have hu := HU.out.kpC hk'.c
      have hx := HXM.out.kpA hk'
      have hy := HYM.out.kpA hk'
      have hj := HJN.out _ HBD.out _ hJ'
      have HR2 := Lib.hid hr
      have HT2 := Lib.hid ht
      have HU2 := Lib.hid hu
      have HJ2 := Lib.hid hj
      have HX2 := Lib.hid hx
      have HY2 := Lib.hid hy
      clear hr ht hu hj hx hy hk' hJ' HR HT HU HJ HXM HYM
      gi_wp2
      have e0 := E0.out
      go_wp2_with fail
      go_roundg (n2 - (k + 1))
      case rel => exact ⟨k + 1, by have := HK.out; have := HLT.out; omega, by go_num, HJ2.out, HR2.out, HT2.out, HU2.out, HX2.out, HY2.out⟩
      case measure => have := HK.out; have := HLT.out; omega
     ·have HXV : Hid (ndAt a.nd (k : Int) = (some true)) := Lib.hid hX
      have HYV : Hid (ndAt b.nd (k : Int) = (some true)) := Lib.hid hY
      rw [hX] at lkx
      rw [hY] at lky
      dsimp only [Option.getD, Option.isSome] at lkx lky
      clear hX hY
      go_upto_region 15 with fail
      clear c1 lkx lky
      have HBD : Hid (ptBad a.tr b.tr (ndAt a.nd (k : Int)) (ndAt b.nd (k : Int)) s1 = false) := Lib.hid (by rw [HXV.out, HYV.out]; unfold ptBad; cases hasI a.tr s1 <;> cases hasI b.tr s1 <;> rfl)
      have HPF := Lib.hid (pf_pt (L := L) HD.out (HYP.out _ HBD.out))
      refine (wpIn_wide (n := n)).1 ?_
      obtain ⟨fn, tmps, assign, body, hy, hRd⟩ := HY.out (D :: (a.tr.map (hasI b.tr) ++ (ptsR a b 0 L.po.l).take k)) false W4 HJ.out (HLE.out)
      gi_wp2
      refine ⟨fun _ => by omega, ?_⟩
      refine hRd.mono ?_
      clear hRd hy
      rintro e W9 (⟨rfl, hJ', hk'⟩ | ⟨rfl, hJx⟩)
      rotate_left
      ·gi_wp2
       go_wp2_with fail
       refine bodyPost_ret (results_none rfl _ _ _) rfl ?_
       exact ⟨⟨_, rfl⟩, .inr ⟨_, HPF.out, hJx⟩⟩
      have hr := HR.out.kpC hk'.c
      have ht := HT.out.kpC hk'.c
      have hu := HU.out.kpC hk'.c
      have hx := HXM.out.kpA hk'
      have hy := HYM.out.kpA hk'
      have hj := HJN.out _ HBD.out _ hJ'
      have HR2 := Lib.hid hr
      have HT2 := Lib.hid ht
      have HU2 := Lib.hid hu
      have HJ2 := Lib.hid hj
      have HX2 := Lib.hid hx
      have HY2 := Lib.hid hy
      clear hr ht hu hj hx hy hk' hJ' HR HT HU HJ HXM HYM
      gi_wp2
      have e0 := E0.out
      go_wp2_with fail
      go_roundg (n2 - (k + 1))
      case rel => exact ⟨k + 1, by have := HK.out; have := HLT.out; omega, by go_num, HJ2.out, HR2.out, HT2.out, HU2.out, HX2.out, HY2.out⟩
      case measure => have := HK.out; have := HLT.out; omega
    ·have hkm : k = n2 := by omega
     have d2 : ¬ (k : Int) < n2 := by omega
     have hj := HJ.out
     rw [List.take_of_length_le (by rw [ptsR_len, HN.out]; omega)] at hj
     have HJ2 : Hid (J (reasonsS L a b) wr) := Lib.hid (by unfold reasonsS; rw [HD.out]; exact hj)
     clear hj hk hlt hkm
     go_wp2_with fail
     go_end0
     first
      | exact ⟨⟨_, rfl⟩, .inl HJ2.out⟩
      | exact ⟨⟨_, rfl⟩, .inl ⟨reasonsS L a b, rfl, HJ2.out⟩⟩
end Go.Proofs.Ytpohoannggdbjaa
